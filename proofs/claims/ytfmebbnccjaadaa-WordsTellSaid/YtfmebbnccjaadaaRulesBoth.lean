/- What is wrong with a rule: ruleW, plain. The walk of match.Wrong: it tells ruleW, for every rule. -/
import Derived.Test.YtfmebbnccjaadaaRuleFoot
import Derived.Test.YtfmebbnccjaadaaRight
import Derived.Deep.DeepCutAuto
import Derived.Deep.CutBlock
import Derived.Test.YtfmebbnccjaadaaSpanRef
namespace Go.Proofs.Ytfmebbnccjaadaa
open Go.RowKit

def firstBad : List Int → Int
  | [] => 0
  | x :: r => if x ≠ 0 then x else firstBad r
def sideW (l : List Spans) : Int := if 20 < l.length then 5 else firstBad (l.map wrongP)
def sidesOf (r : RuleD) : List (List Spans) := [r.before, r.source, r.after]
def badRune (l : List Int) : Bool := l.any fun x => !rightB x
def restW (r : RuleD) : Int :=
  if r.source.length = 0 then 6 else if 20 < r.target.length then 5 else if badRune r.target = true then 3 else if r.cursor < 0 ∨ (r.target.length : Int) < r.cursor then 3 else 0
/-- What is wrong with a rule. -/
def ruleW (r : RuleD) : Int := if firstBad ((sidesOf r).map sideW) ≠ 0 then firstBad ((sidesOf r).map sideW) else restW r
theorem firstBad_hit {x : Int} (r : List Int) (h : x ≠ 0) : firstBad (x :: r) = x := by simp [firstBad, h]
theorem firstBad_zero {x : Int} (r : List Int) (h : x = 0) : firstBad (x :: r) = firstBad r := by simp [firstBad, h]

theorem wrong_right (x : Int) (w : World) : Calls Try.prog 106 #[.int .i32 x] w fun e w' => e = .returned (.bool (!rightB x)) ∧ w' = w := by
  go_enter Try.func106, Try.ntmps106
  go_wp2_with fail
  refine (runes_right _ _).mono ?_
  rintro e w1 ⟨rfl, rfl⟩
  go_wp2_with fail
  go_ret
  exact ⟨rfl, rfl⟩

def CfRel (w : World) (l : List Int) (n : Nat) (i : Value) (wr : World) : Prop :=
  ∃ j : Nat, j ≤ n ∧ i = .int .i64 j ∧ badRune l = badRune (l.drop j) ∧ Below w.heap.size w wr
set_option maxRecDepth 100000 in
set_option maxHeartbeats 800000 in
theorem cf_index (A : Option Addr) (n c : Nat) (l : List Int) (w : World) (hn : n ≤ 9223372036854775807) (hl : RdR w w.heap.size A n l) :
    Calls Try.prog 100 #[.slice A n c, .func (.func 106) #[] #[]] w fun e w' => (∃ k : Int, e = .returned (.int .i64 k) ∧ decide (0 ≤ k) = badRune l) ∧ Below w.heap.size w w' := by
  have HLEN := Lib.hid hl.len
  have HL := Lib.hid hl
  clear hl
  go_enter Try.func100, Try.ntmps100
  go_wp2_with fail
  go_loopw [8] (CfRel w l n) (fun i _ => n - (intOf i).toNat)
  case atStart => exact ⟨0, Nat.zero_le _, rfl, rfl, Below.refl _ _⟩
  case round =>
    obtain ⟨j, hj, rfl, hgo, hb⟩ := hrel
    by_cases hlt : j < n
    · obtain ⟨x, hx⟩ : ∃ z, l[j]? = some z := ⟨_, List.getElem?_eq_getElem (by rw [HLEN.out]; exact hlt)⟩
      obtain ⟨b, off, rfl, hbb, c0⟩ := HL.out.at hlt
      rw [show l.getD j 0 = x by simp [List.getD, hx]] at c0
      have d0 := (hb.cell (p := ⟨b, off + j, none⟩) hbb).trans c0
      rw [drop_at hx, show badRune (x :: l.drop (j + 1)) = (!rightB x || badRune (l.drop (j + 1))) from rfl] at hgo
      have HG := Lib.hid hgo
      have HX := Lib.hid hx
      clear hgo hx c0
      go_wp2_with fail

      refine (wrong_right _ _).mono ?_
      rintro e w1 ⟨rfl, rfl⟩
      cases hr : rightB x
      · have HR := Lib.hid hr
        clear hr
        go_wp2_with fail
        go_ret
        refine ⟨⟨_, rfl, ?_⟩, hb⟩
        rw [HG.out, HR.out]
        simp
      · have HR := Lib.hid hr
        clear hr
        go_wp2_with fail
        exact ⟨⟨j + 1, by omega, by go_num, by rw [HG.out, HR.out]; rfl, hb⟩, by simp [intOf]; omega⟩
    · obtain rfl : j = n := by omega
      rw [List.drop_of_length_le (by rw [HLEN.out]; omega)] at hgo
      have HG := Lib.hid (hgo.trans (show badRune [] = false from rfl))
      clear hgo
      go_wp2_with fail
      go_ret
      exact ⟨⟨_, rfl, by rw [HG.out]; rfl⟩, hb⟩
theorem cf_contains (A : Option Addr) (n c : Nat) (l : List Int) (w : World) (hn : n ≤ 9223372036854775807) (hl : RdR w w.heap.size A n l) :
    Calls Try.prog 82 #[.slice A n c, .func (.func 106) #[] #[]] w fun e w' => e = .returned (.bool (badRune l)) ∧ Below w.heap.size w w' := by
  have H := Lib.hid (cf_index A n c l w hn hl)
  clear hl
  go_enter Try.func82, Try.ntmps82
  go_wp2_with fail
  refine H.out.mono ?_
  rintro e w1 ⟨⟨k, rfl, hk⟩, hb⟩
  have HK := Lib.hid hk
  clear hk
  go_wp2_with fail
  go_ret
  refine ⟨?_, hb⟩
  rw [← HK.out]
  rfl

/-- What is read of a rule's box. -/
def RwRel (w1 : World) (l : List Spans) (n : Nat) (i : Value) (wr : World) : Prop :=
  ∃ j : Nat, j ≤ n ∧ i = .int .i64 j ∧ firstBad (l.map wrongP) = firstBad ((l.drop j).map wrongP) ∧ Below w1.heap.size w1 wr
def RoRel (w1 : World) (r : RuleD) (i : Value) (wr : World) : Prop :=
  ∃ k : Nat, k ≤ 3 ∧ i = .int .i64 k ∧ firstBad ((sidesOf r).map sideW) = firstBad (((sidesOf r).drop k).map sideW) ∧ Below w1.heap.size w1 wr

set_option maxRecDepth 100000 in
set_option maxHeartbeats 3200000 in
theorem match_wrong (r : RuleD) (X : Nat → Prop) (u1 u2 u3 : Value) (A : Option Addr) (n c : Nat) (w : World) (h1 : SetsV w X r.before u1) (h2 : SetsV w X r.source u2) (h3 : SetsV w X r.after u3) (h4 : RdX w X 1 A n (runeCells r.target)) (hn : n ≤ maxLen) :
    Calls Try.prog 90 #[.agg #[.bool r.start, .bool r.fin, u1, u2, u3, .slice A n c, .int .i64 r.cursor]] w fun e w' => e = .returned (.int .i64 (ruleW r)) ∧ Below w.heap.size w w' := by
  obtain ⟨A1, n1, c1, rfl, p1, q1⟩ := h1
  obtain ⟨A2, n2, c2, rfl, p2, q2⟩ := h2
  obtain ⟨A3, n3, c3, rfl, p3, q3⟩ := h3
  have hsz : r.target.length = n := by have := h4.1; rw [runeCells_length] at this; omega
  have hb0 := ((Below.refl w.heap.size w).alloc (Nat.le_refl _) (.cells #[.bool r.start, .bool r.fin, .slice A1 n1 c1, .slice A2 n2 c2, .slice A3 n3 c3, .slice A n c, .int .i64 r.cursor] 79)).alloc (by simp) (.cells #[.slice A1 n1 c1, .slice A2 n2 c2, .slice A3 n3 c3] 77)
  have hside : ∀ k, k < 3 → ∃ (s : List Spans) (A' : Option Addr) (n' c' : Nat), (sidesOf r)[k]? = some s ∧ (#[Value.slice A1 n1 c1, .slice A2 n2 c2, .slice A3 n3 c3])[k]? = some (.slice A' n' c') ∧ ListX (SetC w X) w X 1 A' n' s ∧ n' ≤ maxLen := by
    intro k hk
    match k, hk with
    | 0, _ => exact ⟨_, _, _, _, rfl, rfl, p1, q1⟩
    | 1, _ => exact ⟨_, _, _, _, rfl, rfl, p2, q2⟩
    | 2, _ => exact ⟨_, _, _, _, rfl, rfl, p3, q3⟩
  have HSL := Lib.hid (show r.source.length = n2 from p2.len)
  have HTL := Lib.hid hsz
  have HT := Lib.hid h4
  have HS := Lib.hid hside
  have HB0 := Lib.hid hb0
  have hG := Blk.alloc (Blk.new w 79 #[.bool r.start, .bool r.fin, .slice A1 n1 c1, .slice A2 n2 c2, .slice A3 n3 c3, .slice A n c, .int .i64 r.cursor]) (.cells #[.slice A1 n1 c1, .slice A2 n2 c2, .slice A3 n3 c3] 77)
  have hL := Blk.new (w.alloc (.cells #[.bool r.start, .bool r.fin, .slice A1 n1 c1, .slice A2 n2 c2, .slice A3 n3 c3, .slice A n c, .int .i64 r.cursor] 79)) 77 #[.slice A1 n1 c1, .slice A2 n2 c2, .slice A3 n3 c3]
  rw [show (w.alloc (.cells #[.bool r.start, .bool r.fin, .slice A1 n1 c1, .slice A2 n2 c2, .slice A3 n3 c3, .slice A n c, .int .i64 r.cursor] 79)).heap.size = w.heap.size + 1 by simp] at hL
  have HG := Lib.hid hG
  have HL := Lib.hid hL
  clear h4 p1 p2 p3 hside hb0 hG hL hsz
  simp only [maxLen] at hn q1 q2 q3
  go_enter Try.func90, Try.ntmps90
  go_wp2_with fail
  go_loopw [16] (RoRel ((w.alloc (.cells #[.bool r.start, .bool r.fin, .slice A1 n1 c1, .slice A2 n2 c2, .slice A3 n3 c3, .slice A n c, .int .i64 r.cursor] 79)).alloc (.cells #[.slice A1 n1 c1, .slice A2 n2 c2, .slice A3 n3 c3] 77)) r) (fun i _ => 3 - (intOf i).toNat)
  case atStart => exact ⟨0, Nat.zero_le _, rfl, rfl, Below.refl _ _⟩
  case round =>
    obtain ⟨k, hk, rfl, hgo, hb⟩ := hrel
    have hbw := HB0.out.trans (hb.mono HB0.out.size)
    by_cases hlt : k < 3
    · have hk3 : decide ((k : Int) < 3) = true := decide_eq_true (by omega)
      obtain ⟨s, A', n', c', hs, hu, hls, hn'⟩ := HS.out k hlt
      have hcell : wr.cell? ⟨w.heap.size + 1, k, none⟩ = some (.slice A' n' c') := ((Blk.below HL.out hb HL.out.lt).cell k).trans hu
      have HSN := Lib.hid (show s.length = n' from hls.len)
      have hgo : firstBad ((sidesOf r).map sideW) = firstBad (sideW s :: ((sidesOf r).drop (k + 1)).map sideW) := by rw [hgo, drop_at hs, List.map_cons]
      simp only [maxLen] at hn'
      have HLS := Lib.hid hls
      have HBW := Lib.hid hbw
      have HB := Lib.hid hb
      clear hs hu hls hbw hb
      by_cases h20 : 20 < n'
      · rw [show sideW s = 5 by unfold sideW; rw [if_pos (by rw [HSN.out]; exact h20)], firstBad_hit _ (by decide)] at hgo
        have HGO := Lib.hid hgo
        clear hgo
        go_wp2_with fail
        go_ret
        refine ⟨?_, HBW.out⟩
        rw [ruleW, if_pos (by rw [HGO.out]; decide), HGO.out]
        rfl
      · have HGO := Lib.hid hgo
        have HSW := Lib.hid (show sideW s = firstBad (s.map wrongP) by unfold sideW; rw [if_neg (by rw [HSN.out]; exact h20)])
        clear hgo
        have h20d : decide ((20 : Int) < (n' : Int)) = false := decide_eq_false (by omega)
        go_wp2_with fail
        go_loopw [25] (RwRel wr s n') (fun i _ => n' - (intOf i).toNat)
        case atStart => exact ⟨0, Nat.zero_le _, rfl, rfl, Below.refl _ _⟩
        case round =>
          obtain ⟨j, hj, rfl, hg2, hb2⟩ := hrel
          have HB2 := Lib.hid (HB.out.trans (hb2.mono HB.out.size))
          have HBW2 := Lib.hid (HBW.out.trans (hb2.mono HBW.out.size))
          by_cases hlt2 : j < n'
          · obtain ⟨x, hx⟩ : ∃ z, s[j]? = some z := ⟨_, List.getElem?_eq_getElem (by rw [HSN.out]; exact hlt2)⟩
            obtain ⟨b, off, A'', n'', c'', rfl, _, hbb, hcx, hrd, _, hnn⟩ := sets_at (HLS.out.keep (Keeps.any HBW2.out) (fun _ _ => SetC.keep (Keeps.any HBW2.out))) hx
            simp only [maxLen] at hnn
            have hg2 : firstBad (s.map wrongP) = firstBad (wrongP x :: (s.drop (j + 1)).map wrongP) := by rw [hg2, drop_at hx, List.map_cons]
            have HG2 := Lib.hid hg2
            have HX := Lib.hid hx
            have HB3 := Lib.hid hb2
            clear hg2 hx hb2
            go_wp2_with fail
            refine (sets_wrong A'' n'' c'' x _ (by omega) hrd).mono ?_
            rintro e w9 ⟨rfl, hb9⟩
            have HB9 := Lib.hid hb9
            clear hb9 hrd
            by_cases hz : wrongP x = 0
            · have HZ := Lib.hid hz
              have HR := Lib.hid (HG2.out.trans (firstBad_zero _ hz))
              rw [hz]
              clear hz
              go_wp2_with fail
              exact ⟨⟨j + 1, by omega, by go_num, HR.out, HB3.out.trans (HB9.out.mono HB3.out.size)⟩, by simp [intOf]; omega⟩
            · have HR := Lib.hid (HG2.out.trans (firstBad_hit _ hz))
              go_wp2_with fail
              go_ret
              refine ⟨?_, HBW2.out.trans (HB9.out.mono HBW2.out.size)⟩
              rw [ruleW, HGO.out, HSW.out, HR.out, firstBad_hit _ hz, if_pos hz]
              rfl
          · obtain rfl : j = n' := by omega
            rw [List.drop_of_length_le (by rw [HSN.out]; omega)] at hg2
            have HG2 := Lib.hid (HSW.out.trans hg2)
            have HB3 := Lib.hid hb2
            clear hg2 hb2
            go_wp2_with fail
            exact ⟨⟨k + 1, by omega, by go_num, HGO.out.trans (firstBad_zero _ HG2.out), HB2.out⟩, by simp [intOf]; omega⟩
    · have hk3 : k = 3 := by omega
      have HR := Lib.hid (show ruleW r = restW r by rw [ruleW, if_neg (by rw [hgo, hk3, show (sidesOf r).drop 3 = [] from rfl]; decide)])
      clear hk3
      have hG := Blk.below HG.out hb HG.out.lt
      have d3 : wr.cell? ⟨w.heap.size, 3, none⟩ = some (.slice A2 n2 c2) := hG.cell 3
      have d5 : wr.cell? ⟨w.heap.size, 5, none⟩ = some (.slice A n c) := hG.cell 5
      have HBW := Lib.hid hbw
      have HG3 := Lib.hid hG
      clear hgo hG hb hbw
      by_cases hs0 : n2 = 0
      · subst hs0
        have HP := Lib.hid (show restW r = 6 by rw [restW, if_pos HSL.out])
        go_wp2_with fail
        go_ret
        rw [HR.out, HP.out]
        exact ⟨rfl, HBW.out⟩
      · by_cases ht : 20 < n
        · have HP := Lib.hid (show restW r = 5 by rw [restW, if_neg (by rw [HSL.out]; exact hs0), if_pos (by rw [HTL.out]; exact ht)])
          have hs1 : decide ((n2 : Int) = 0) = false := by simpa using hs0
          go_wp2_with fail
          go_ret
          rw [HR.out, HP.out]
          exact ⟨rfl, HBW.out⟩
        · have HP := Lib.hid (show restW r = _ by rw [restW, if_neg (by rw [HSL.out]; exact hs0), if_neg (by rw [HTL.out]; exact ht)])
          have hs1 : decide ((n2 : Int) = 0) = false := by simpa using hs0
          go_wp2_with fail
          refine (cf_contains A n c r.target _ (by omega) (HT.out.keep (Keeps.any HBW.out)).of).mono ?_
          rintro e w9 ⟨rfl, hb9⟩
          have d6 : w9.cell? ⟨w.heap.size, 6, none⟩ = some (.int .i64 r.cursor) := (Blk.below HG3.out hb9 HG3.out.lt).cell 6
          have d5 : w9.cell? ⟨w.heap.size, 5, none⟩ = some (.slice A n c) := (Blk.below HG3.out hb9 HG3.out.lt).cell 5
          have HB9 := Lib.hid (HBW.out.trans (hb9.mono HBW.out.size))
          clear hb9
          cases hbd : badRune r.target
          · rw [hbd] at HP
            have HP := Lib.hid (HP.out.trans (if_neg (by decide)))
            clear hbd
            by_cases hc0 : r.cursor < 0
            · have HP := Lib.hid (HP.out.trans (if_pos (Or.inl hc0)))
              go_wp2_with fail
              go_ret
              rw [HR.out, HP.out]
              exact ⟨rfl, HB9.out⟩
            · by_cases hc1 : (n : Int) < r.cursor
              · have HP := Lib.hid (HP.out.trans (if_pos (Or.inr (by rw [HTL.out]; exact hc1))))
                go_wp2_with fail
                go_ret
                rw [HR.out, HP.out]
                exact ⟨rfl, HB9.out⟩
              · have HP := Lib.hid (HP.out.trans (if_neg (by rw [HTL.out]; omega)))
                go_wp2_with fail
                go_ret
                rw [HR.out, HP.out]
                exact ⟨rfl, HB9.out⟩
          · rw [hbd] at HP
            have HP := Lib.hid (HP.out.trans (if_pos rfl))
            clear hbd
            go_wp2_with fail
            go_ret
            rw [HR.out, HP.out]
            exact ⟨rfl, HB9.out⟩

end Go.Proofs.Ytfmebbnccjaadaa

/- What is wrong with a rule, by the document's answer: the walk of scriptref7.Wrong: ruleW. -/
namespace Go.Proofs.Ytfmebbnccjaadaa
open Go.RowKit

set_option maxRecDepth 100000 in
set_option maxHeartbeats 800000 in
theorem ref_all (A : Option Addr) (n c : Nat) (l : List Int) (w : World) (hn : n ≤ 9223372036854775807) (hl : RdR w w.heap.size A n l) :
    Calls Try.prog 77 #[.slice A n c] w fun e w' => e = .returned (.bool (!badRune l)) ∧ Below w.heap.size w w' := by
  have HLEN := Lib.hid hl.len
  have HL := Lib.hid hl
  clear hl
  go_enter Try.func77, Try.ntmps77
  go_wp2_with fail
  go_loopw [7] (CfRel w l n) (fun i _ => n - (intOf i).toNat)
  case atStart => exact ⟨0, Nat.zero_le _, rfl, rfl, Below.refl _ _⟩
  case round =>
    obtain ⟨j, hj, rfl, hgo, hb⟩ := hrel
    by_cases hlt : j < n
    · obtain ⟨x, hx⟩ : ∃ z, l[j]? = some z := ⟨_, List.getElem?_eq_getElem (by rw [HLEN.out]; exact hlt)⟩
      obtain ⟨b, off, rfl, hbb, c0⟩ := HL.out.at hlt
      rw [show l.getD j 0 = x by simp [List.getD, hx]] at c0
      have d0 := (hb.cell (p := ⟨b, off + j, none⟩) hbb).trans c0
      rw [drop_at hx, show badRune (x :: l.drop (j + 1)) = (!rightB x || badRune (l.drop (j + 1))) from rfl] at hgo
      have HG := Lib.hid hgo
      have HX := Lib.hid hx
      clear hgo hx c0
      go_wp2_with fail
      refine (ref_right _ _).mono ?_
      rintro e w1 ⟨rfl, rfl⟩
      cases hr : rightB x
      · have HR := Lib.hid hr
        clear hr
        go_wp2_with fail
        go_ret
        refine ⟨?_, hb⟩
        rw [HG.out, HR.out]
        rfl
      · have HR := Lib.hid hr
        clear hr
        go_wp2_with fail
        exact ⟨⟨j + 1, by omega, by go_num, by rw [HG.out, HR.out]; rfl, hb⟩, by simp [intOf]; omega⟩
    · obtain rfl : j = n := by omega
      rw [List.drop_of_length_le (by rw [HLEN.out]; omega)] at hgo
      have HG := Lib.hid (hgo.trans (show badRune [] = false from rfl))
      clear hgo
      go_wp2_with fail
      go_ret
      rw [HG.out]
      exact ⟨rfl, hb⟩

set_option maxRecDepth 100000 in
set_option maxHeartbeats 3200000 in
theorem ref_rule_wrong (r : RuleD) (X : Nat → Prop) (u1 u2 u3 : Value) (A : Option Addr) (n c : Nat) (w : World) (h1 : SetsV w X r.before u1) (h2 : SetsV w X r.source u2) (h3 : SetsV w X r.after u3) (h4 : RdX w X 1 A n (runeCells r.target)) (hn : n ≤ maxLen) :
    Calls Try.prog 76 #[.agg #[.bool r.start, .bool r.fin, u1, u2, u3, .slice A n c, .int .i64 r.cursor]] w fun e w' => e = .returned (.int .i64 (ruleW r)) ∧ Below w.heap.size w w' := by
  obtain ⟨A1, n1, c1, rfl, p1, q1⟩ := h1
  obtain ⟨A2, n2, c2, rfl, p2, q2⟩ := h2
  obtain ⟨A3, n3, c3, rfl, p3, q3⟩ := h3
  have hsz : r.target.length = n := by have := h4.1; rw [runeCells_length] at this; omega
  have hb0 := ((Below.refl w.heap.size w).alloc (Nat.le_refl _) (.cells #[.bool r.start, .bool r.fin, .slice A1 n1 c1, .slice A2 n2 c2, .slice A3 n3 c3, .slice A n c, .int .i64 r.cursor] 79)).alloc (by simp) (.cells #[.slice A1 n1 c1, .slice A2 n2 c2, .slice A3 n3 c3] 77)
  have hside : ∀ k, k < 3 → ∃ (s : List Spans) (A' : Option Addr) (n' c' : Nat), (sidesOf r)[k]? = some s ∧ (#[Value.slice A1 n1 c1, .slice A2 n2 c2, .slice A3 n3 c3])[k]? = some (.slice A' n' c') ∧ ListX (SetC w X) w X 1 A' n' s ∧ n' ≤ maxLen := by
    intro k hk
    match k, hk with
    | 0, _ => exact ⟨_, _, _, _, rfl, rfl, p1, q1⟩
    | 1, _ => exact ⟨_, _, _, _, rfl, rfl, p2, q2⟩
    | 2, _ => exact ⟨_, _, _, _, rfl, rfl, p3, q3⟩
  have HSL := Lib.hid (show r.source.length = n2 from p2.len)
  have HTL := Lib.hid hsz
  have HT := Lib.hid h4
  have HS := Lib.hid hside
  have HB0 := Lib.hid hb0
  have hG := Blk.alloc (Blk.new w 79 #[.bool r.start, .bool r.fin, .slice A1 n1 c1, .slice A2 n2 c2, .slice A3 n3 c3, .slice A n c, .int .i64 r.cursor]) (.cells #[.slice A1 n1 c1, .slice A2 n2 c2, .slice A3 n3 c3] 77)
  have hL := Blk.new (w.alloc (.cells #[.bool r.start, .bool r.fin, .slice A1 n1 c1, .slice A2 n2 c2, .slice A3 n3 c3, .slice A n c, .int .i64 r.cursor] 79)) 77 #[.slice A1 n1 c1, .slice A2 n2 c2, .slice A3 n3 c3]
  rw [show (w.alloc (.cells #[.bool r.start, .bool r.fin, .slice A1 n1 c1, .slice A2 n2 c2, .slice A3 n3 c3, .slice A n c, .int .i64 r.cursor] 79)).heap.size = w.heap.size + 1 by simp] at hL
  have HG := Lib.hid hG
  have HL := Lib.hid hL
  clear h4 p1 p2 p3 hside hb0 hG hL hsz
  simp only [maxLen] at hn q1 q2 q3
  go_enter Try.func76, Try.ntmps76
  go_wp2_with fail
  go_loopw [15] (RoRel ((w.alloc (.cells #[.bool r.start, .bool r.fin, .slice A1 n1 c1, .slice A2 n2 c2, .slice A3 n3 c3, .slice A n c, .int .i64 r.cursor] 79)).alloc (.cells #[.slice A1 n1 c1, .slice A2 n2 c2, .slice A3 n3 c3] 77)) r) (fun i _ => 3 - (intOf i).toNat)
  case atStart => exact ⟨0, Nat.zero_le _, rfl, rfl, Below.refl _ _⟩
  case round =>
    obtain ⟨k, hk, rfl, hgo, hb⟩ := hrel
    have hbw := HB0.out.trans (hb.mono HB0.out.size)
    by_cases hlt : k < 3
    · have hk3 : decide ((k : Int) < 3) = true := decide_eq_true (by omega)
      obtain ⟨s, A', n', c', hs, hu, hls, hn'⟩ := HS.out k hlt
      have hcell : wr.cell? ⟨w.heap.size + 1, k, none⟩ = some (.slice A' n' c') := ((Blk.below HL.out hb HL.out.lt).cell k).trans hu
      have HSN := Lib.hid (show s.length = n' from hls.len)
      have hgo : firstBad ((sidesOf r).map sideW) = firstBad (sideW s :: ((sidesOf r).drop (k + 1)).map sideW) := by rw [hgo, drop_at hs, List.map_cons]
      simp only [maxLen] at hn'
      have HLS := Lib.hid hls
      have HBW := Lib.hid hbw
      have HB := Lib.hid hb
      clear hs hu hls hbw hb
      by_cases h20 : 20 < n'
      · rw [show sideW s = 5 by unfold sideW; rw [if_pos (by rw [HSN.out]; exact h20)], firstBad_hit _ (by decide)] at hgo
        have HGO := Lib.hid hgo
        clear hgo
        go_wp2_with fail
        go_ret
        refine ⟨?_, HBW.out⟩
        rw [ruleW, if_pos (by rw [HGO.out]; decide), HGO.out]
        rfl
      · have HGO := Lib.hid hgo
        have HSW := Lib.hid (show sideW s = firstBad (s.map wrongP) by unfold sideW; rw [if_neg (by rw [HSN.out]; exact h20)])
        clear hgo
        have h20d : decide ((20 : Int) < (n' : Int)) = false := decide_eq_false (by omega)
        go_wp2_with fail
        go_loopw [24] (RwRel wr s n') (fun i _ => n' - (intOf i).toNat)
        case atStart => exact ⟨0, Nat.zero_le _, rfl, rfl, Below.refl _ _⟩
        case round =>
          obtain ⟨j, hj, rfl, hg2, hb2⟩ := hrel
          have HB2 := Lib.hid (HB.out.trans (hb2.mono HB.out.size))
          have HBW2 := Lib.hid (HBW.out.trans (hb2.mono HBW.out.size))
          by_cases hlt2 : j < n'
          · obtain ⟨x, hx⟩ : ∃ z, s[j]? = some z := ⟨_, List.getElem?_eq_getElem (by rw [HSN.out]; exact hlt2)⟩
            obtain ⟨b, off, A'', n'', c'', rfl, _, hbb, hcx, hrd, _, hnn⟩ := sets_at (HLS.out.keep (Keeps.any HBW2.out) (fun _ _ => SetC.keep (Keeps.any HBW2.out))) hx
            simp only [maxLen] at hnn
            have hg2 : firstBad (s.map wrongP) = firstBad (wrongP x :: (s.drop (j + 1)).map wrongP) := by rw [hg2, drop_at hx, List.map_cons]
            have HG2 := Lib.hid hg2
            have HX := Lib.hid hx
            have HB3 := Lib.hid hb2
            clear hg2 hx hb2
            go_wp2_with fail
            refine (ref2_wrong A'' n'' c'' x _ (by omega) hrd).mono ?_
            rintro e w9 ⟨rfl, hb9⟩
            have HB9 := Lib.hid hb9
            clear hb9 hrd
            by_cases hz : wrongP x = 0
            · have HZ := Lib.hid hz
              have HR := Lib.hid (HG2.out.trans (firstBad_zero _ hz))
              rw [hz]
              clear hz
              go_wp2_with fail
              exact ⟨⟨j + 1, by omega, by go_num, HR.out, HB3.out.trans (HB9.out.mono HB3.out.size)⟩, by simp [intOf]; omega⟩
            · have HR := Lib.hid (HG2.out.trans (firstBad_hit _ hz))
              go_wp2_with fail
              go_ret
              refine ⟨?_, HBW2.out.trans (HB9.out.mono HBW2.out.size)⟩
              rw [ruleW, HGO.out, HSW.out, HR.out, firstBad_hit _ hz, if_pos hz]
              rfl
          · obtain rfl : j = n' := by omega
            rw [List.drop_of_length_le (by rw [HSN.out]; omega)] at hg2
            have HG2 := Lib.hid (HSW.out.trans hg2)
            have HB3 := Lib.hid hb2
            clear hg2 hb2
            go_wp2_with fail
            exact ⟨⟨k + 1, by omega, by go_num, HGO.out.trans (firstBad_zero _ HG2.out), HB2.out⟩, by simp [intOf]; omega⟩
    · have hk3 : k = 3 := by omega
      have HR := Lib.hid (show ruleW r = restW r by rw [ruleW, if_neg (by rw [hgo, hk3, show (sidesOf r).drop 3 = [] from rfl]; decide)])
      clear hk3
      have hG := Blk.below HG.out hb HG.out.lt
      have d3 : wr.cell? ⟨w.heap.size, 3, none⟩ = some (.slice A2 n2 c2) := hG.cell 3
      have d5 : wr.cell? ⟨w.heap.size, 5, none⟩ = some (.slice A n c) := hG.cell 5
      have HBW := Lib.hid hbw
      have HG3 := Lib.hid hG
      clear hgo hG hb hbw
      by_cases hs0 : n2 = 0
      · subst hs0
        have HP := Lib.hid (show restW r = 6 by rw [restW, if_pos HSL.out])
        go_wp2_with fail
        go_ret
        rw [HR.out, HP.out]
        exact ⟨rfl, HBW.out⟩
      · by_cases ht : 20 < n
        · have HP := Lib.hid (show restW r = 5 by rw [restW, if_neg (by rw [HSL.out]; exact hs0), if_pos (by rw [HTL.out]; exact ht)])
          have hs1 : 1 ≤ n2 := by omega
          go_wp2_with fail
          go_ret
          rw [HR.out, HP.out]
          exact ⟨rfl, HBW.out⟩
        · have HP := Lib.hid (show restW r = _ by rw [restW, if_neg (by rw [HSL.out]; exact hs0), if_neg (by rw [HTL.out]; exact ht)])
          have hs1 : 1 ≤ n2 := by omega
          go_wp2_with fail
          refine (ref_all A n c r.target _ (by omega) (HT.out.keep (Keeps.any HBW.out)).of).mono ?_
          rintro e w9 ⟨rfl, hb9⟩
          have d6 : w9.cell? ⟨w.heap.size, 6, none⟩ = some (.int .i64 r.cursor) := (Blk.below HG3.out hb9 HG3.out.lt).cell 6
          have d5 : w9.cell? ⟨w.heap.size, 5, none⟩ = some (.slice A n c) := (Blk.below HG3.out hb9 HG3.out.lt).cell 5
          have HB9 := Lib.hid (HBW.out.trans (hb9.mono HBW.out.size))
          clear hb9
          cases hbd : badRune r.target
          · rw [hbd] at HP
            have HP := Lib.hid (HP.out.trans (if_neg (by decide)))
            clear hbd
            by_cases hc0 : r.cursor < 0
            · have HP := Lib.hid (HP.out.trans (if_pos (Or.inl hc0)))
              go_wp2_with fail
              go_ret
              rw [HR.out, HP.out]
              exact ⟨rfl, HB9.out⟩
            · by_cases hc1 : (n : Int) < r.cursor
              · have HP := Lib.hid (HP.out.trans (if_pos (Or.inr (by rw [HTL.out]; exact hc1))))
                go_wp2_with fail
                go_ret
                rw [HR.out, HP.out]
                exact ⟨rfl, HB9.out⟩
              · have HP := Lib.hid (HP.out.trans (if_neg (by rw [HTL.out]; omega)))
                go_wp2_with fail
                go_ret
                rw [HR.out, HP.out]
                exact ⟨rfl, HB9.out⟩
          · rw [hbd] at HP
            have HP := Lib.hid (HP.out.trans (if_pos rfl))
            clear hbd
            go_wp2_with fail
            go_ret
            rw [HR.out, HP.out]
            exact ⟨rfl, HB9.out⟩

end Go.Proofs.Ytfmebbnccjaadaa

/- What is wrong with rules: rulesW, plain. The walks of run.Wrong and scriptref8.Wrong: both tell it. -/
namespace Go.Proofs.Ytfmebbnccjaadaa
open Go.RowKit

def rulesGo : Nat → List RuleD → Int × Int
  | _, [] => (0, 0)
  | i, r :: l => if ruleW r ≠ 0 then (ruleW r, (i : Int)) else rulesGo (i + 1) l
/-- What is wrong with rules, and at which one. -/
def rulesW (l : List RuleD) : Int × Int := if 200 < l.length then (5, 0) else rulesGo 0 l
/-- One rule of a list. -/
theorem rule_at {w : World} {X : Nat → Prop} {A : Option Addr} {n : Nat} {l : List RuleD} (h : ListX (RuleC w X) w X 7 A n l) {k : Nat} {r : RuleD} (hk : l[k]? = some r) :
    ∃ (b off : Nat) (A1 A2 A3 A4 : Option Addr) (n1 c1 n2 c2 n3 c3 n4 c4 : Nat), A = some ⟨b, off, none⟩ ∧ X b ∧ b < w.heap.size ∧
      (w.cell? ⟨b, off + k * 7, none⟩ = some (.bool r.start) ∧ w.cell? ⟨b, off + k * 7 + 1, none⟩ = some (.bool r.fin) ∧ w.cell? ⟨b, off + k * 7 + 2, none⟩ = some (.slice A1 n1 c1) ∧ w.cell? ⟨b, off + k * 7 + 3, none⟩ = some (.slice A2 n2 c2) ∧ w.cell? ⟨b, off + k * 7 + 4, none⟩ = some (.slice A3 n3 c3) ∧ w.cell? ⟨b, off + k * 7 + 5, none⟩ = some (.slice A4 n4 c4) ∧ w.cell? ⟨b, off + k * 7 + 6, none⟩ = some (.int .i64 r.cursor)) ∧
      SetsV w X r.before (.slice A1 n1 c1) ∧ SetsV w X r.source (.slice A2 n2 c2) ∧ SetsV w X r.after (.slice A3 n3 c3) ∧ RdX w X 1 A4 n4 (runeCells r.target) ∧ n4 ≤ maxLen := by
  obtain ⟨b, off, cs, e, hx, hb, ⟨u1, u2, u3, A4, n4, c4, rfl, h1, h2, h3, h4, h5⟩, _, hc⟩ := h.at hk
  obtain ⟨A1, n1, c1, rfl, h1⟩ := h1
  obtain ⟨A2, n2, c2, rfl, h2⟩ := h2
  obtain ⟨A3, n3, c3, rfl, h3⟩ := h3
  exact ⟨b, off, A1, A2, A3, A4, n1, c1, n2, c2, n3, c3, n4, c4, e, hx, hb, ⟨hc 0 _ rfl, hc 1 _ rfl, hc 2 _ rfl, hc 3 _ rfl, hc 4 _ rfl, hc 5 _ rfl, hc 6 _ rfl⟩, ⟨_, _, _, rfl, h1⟩, ⟨_, _, _, rfl, h2⟩, ⟨_, _, _, rfl, h3⟩, h4, h5⟩

def RsRel (w : World) (l : List RuleD) (n : Nat) (i : Value) (wr : World) : Prop :=
  ∃ k : Nat, k ≤ n ∧ i = .int .i64 k ∧ rulesGo 0 l = rulesGo k (l.drop k) ∧ Blk wr w.heap.size 28 #[.int .i64 0, .int .i64 0] ∧ Below w.heap.size w wr

set_option maxRecDepth 100000 in
set_option maxHeartbeats 1600000 in
theorem run_wrong (X : Nat → Prop) (l : List RuleD) (A : Option Addr) (n c : Nat) (w : World) (hn : n ≤ maxLen) (hl : ListX (RuleC w X) w X 7 A n l) :
    Calls Try.prog 59 #[.slice A n c] w fun e w' => e = .returned (.agg #[.int .i64 (rulesW l).1, .int .i64 (rulesW l).2]) ∧ Below w.heap.size w w' := by
  have HLEN := Lib.hid (show l.length = n from hl.len)
  have HL := Lib.hid hl
  have HF0 := Lib.hid (Blk.new w 28 #[.int .i64 0, .int .i64 0])
  clear hl
  simp only [maxLen] at hn
  by_cases h2 : 200 < n
  · have HP := Lib.hid (show rulesW l = (5, 0) by unfold rulesW; rw [if_pos (by rw [HLEN.out]; exact h2)])
    go_enter Try.func59, Try.ntmps59
    go_wp2_with fail
    rw [HP.out]
    exact bodyPost_ret (v := .agg #[.int .i64 5, .int .i64 0]) (by simp [results, Try.results59, go_sem]) rfl ⟨rfl, (Below.refl _ _).alloc (Nat.le_refl _) _⟩
  · have HP := Lib.hid (show rulesW l = rulesGo 0 l by unfold rulesW; rw [if_neg (by rw [HLEN.out]; exact h2)])
    go_enter Try.func59, Try.ntmps59
    go_wp2_with fail
    go_loopw [12] (RsRel w l n) (fun i _ => n - (intOf i).toNat)
    case atStart => exact ⟨0, Nat.zero_le _, rfl, rfl, HF0.out, (Below.refl _ _).alloc (Nat.le_refl _) _⟩
    case round =>
      obtain ⟨k, hk, rfl, hgo, hfb, hb⟩ := hrel
      have hz := hb.size
      by_cases hlt : k < n
      · obtain ⟨r, hr⟩ : ∃ z, l[k]? = some z := ⟨_, List.getElem?_eq_getElem (by rw [HLEN.out]; exact hlt)⟩
        obtain ⟨b, off, A1, A2, A3, A4, n1, c1, n2, c2, n3, c3, n4, c4, rfl, _, hbb, ⟨d0, d1, d2, d3, d4, d5, d6⟩, s1, s2, s3, s4, hn4⟩ := rule_at (HL.out.keep (Keeps.any hb) (fun _ _ => RuleC.keep (Keeps.any hb))) hr
        rw [drop_at hr, rulesGo] at hgo
        have HGO := Lib.hid hgo
        have HR := Lib.hid hr
        have HF2 := Lib.hid (hfb.alloc (.cells #[.bool r.start, .bool r.fin, .slice A1 n1 c1, .slice A2 n2 c2, .slice A3 n3 c3, .slice A4 n4 c4, .int .i64 r.cursor] 79))
        have HB2 := Lib.hid (hb.alloc hb.size (.cells #[.bool r.start, .bool r.fin, .slice A1 n1 c1, .slice A2 n2 c2, .slice A3 n3 c3, .slice A4 n4 c4, .int .i64 r.cursor] 79))
        have HK := Lib.hid (Keeps.any (X := X) ((Below.refl wr.heap.size wr).alloc (Nat.le_refl _) (.cells #[.bool r.start, .bool r.fin, .slice A1 n1 c1, .slice A2 n2 c2, .slice A3 n3 c3, .slice A4 n4 c4, .int .i64 r.cursor] 79)))
        have HMW := Lib.hid (match_wrong r X (.slice A1 n1 c1) (.slice A2 n2 c2) (.slice A3 n3 c3) A4 n4 c4 (wr.alloc (.cells #[.bool r.start, .bool r.fin, .slice A1 n1 c1, .slice A2 n2 c2, .slice A3 n3 c3, .slice A4 n4 c4, .int .i64 r.cursor] 79)) (s1.keep HK.out) (s2.keep HK.out) (s3.keep HK.out) (s4.keep HK.out) hn4)
        clear hgo hr hfb hb s1 s2 s3 s4 hn4
        go_wp2_with fail
        refine HMW.out.mono ?_
        rintro e w9 ⟨rfl, hb9⟩
        have HF9 := Lib.hid (Blk.below HF2.out hb9 HF2.out.lt)
        have HB9 := Lib.hid (HB2.out.trans (hb9.mono HB2.out.size))
        have e0 : w9.cell? ⟨w.heap.size, 0, none⟩ = some (.int .i64 0) := HF9.out.cell 0
        have e1 : w9.cell? ⟨w.heap.size, 1, none⟩ = some (.int .i64 0) := HF9.out.cell 1
        have ef0 := HF9.out.frozen 0
        have ef1 := HF9.out.frozen 1
        clear hb9
        by_cases hz : ruleW r = 0
        · have HGO2 := Lib.hid (HGO.out.trans (if_neg (by rw [hz]; decide)))
          rw [hz]
          clear hz
          go_wp2_with fail
          exact ⟨⟨k + 1, by omega, by go_num, HGO2.out, HF9.out, HB9.out⟩, by simp [intOf]; omega⟩
        · have HGO2 := Lib.hid (HGO.out.trans (if_pos hz))
          go_wp2_with fail
          rw [HP.out, HGO2.out]
          exact bodyPost_ret (v := .agg #[.int .i64 (ruleW r), .int .i64 k]) (by simp [results, Try.results59, go_sem, e0, e1]) rfl ⟨rfl, (HB9.out.setCell (by simp) _).setCell (by simp) _⟩
      · obtain rfl : k = n := by omega
        rw [List.drop_of_length_le (by rw [HLEN.out]; omega)] at hgo
        have HG := Lib.hid (hgo.trans (show rulesGo k [] = (0, 0) from rfl))
        have e0 : wr.cell? ⟨w.heap.size, 0, none⟩ = some (.int .i64 0) := hfb.cell 0
        have e1 : wr.cell? ⟨w.heap.size, 1, none⟩ = some (.int .i64 0) := hfb.cell 1
        have ef0 := hfb.frozen 0
        have ef1 := hfb.frozen 1
        clear hgo
        go_wp2_with fail
        rw [HP.out, HG.out]
        exact bodyPost_ret (v := .agg #[.int .i64 0, .int .i64 0]) (by simp [results, Try.results59, go_sem, e0, e1]) rfl ⟨rfl, (hb.setCell (by simp) _).setCell (by simp) _⟩

set_option maxRecDepth 100000 in
set_option maxHeartbeats 1600000 in
theorem ref8_wrong (X : Nat → Prop) (l : List RuleD) (A : Option Addr) (n c : Nat) (w : World) (hn : n ≤ maxLen) (hl : ListX (RuleC w X) w X 7 A n l) :
    Calls Try.prog 41 #[.slice A n c] w fun e w' => e = .returned (.agg #[.int .i64 (rulesW l).1, .int .i64 (rulesW l).2]) ∧ Below w.heap.size w w' := by
  have HLEN := Lib.hid (show l.length = n from hl.len)
  have HL := Lib.hid hl
  have HF0 := Lib.hid (Blk.new w 28 #[.int .i64 0, .int .i64 0])
  clear hl
  simp only [maxLen] at hn
  by_cases h2 : 200 < n
  · have HP := Lib.hid (show rulesW l = (5, 0) by unfold rulesW; rw [if_pos (by rw [HLEN.out]; exact h2)])
    go_enter Try.func41, Try.ntmps41
    go_wp2_with fail
    rw [HP.out]
    exact bodyPost_ret (v := .agg #[.int .i64 5, .int .i64 0]) (by simp [results, Try.results41, go_sem]) rfl ⟨rfl, (Below.refl _ _).alloc (Nat.le_refl _) _⟩
  · have HP := Lib.hid (show rulesW l = rulesGo 0 l by unfold rulesW; rw [if_neg (by rw [HLEN.out]; exact h2)])
    go_enter Try.func41, Try.ntmps41
    go_wp2_with fail
    go_loopw [11] (RsRel w l n) (fun i _ => n - (intOf i).toNat)
    case atStart => exact ⟨0, Nat.zero_le _, rfl, rfl, HF0.out, (Below.refl _ _).alloc (Nat.le_refl _) _⟩
    case round =>
      obtain ⟨k, hk, rfl, hgo, hfb, hb⟩ := hrel
      have hz := hb.size
      by_cases hlt : k < n
      · obtain ⟨r, hr⟩ : ∃ z, l[k]? = some z := ⟨_, List.getElem?_eq_getElem (by rw [HLEN.out]; exact hlt)⟩
        obtain ⟨b, off, A1, A2, A3, A4, n1, c1, n2, c2, n3, c3, n4, c4, rfl, _, hbb, ⟨d0, d1, d2, d3, d4, d5, d6⟩, s1, s2, s3, s4, hn4⟩ := rule_at (HL.out.keep (Keeps.any hb) (fun _ _ => RuleC.keep (Keeps.any hb))) hr
        rw [drop_at hr, rulesGo] at hgo
        have HGO := Lib.hid hgo
        have HR := Lib.hid hr
        have HF2 := Lib.hid hfb
        have HB2 := Lib.hid hb
        have HK := Lib.hid (Keeps.any (X := X) ((Below.refl wr.heap.size wr)))
        have HMW := Lib.hid (ref_rule_wrong r X (.slice A1 n1 c1) (.slice A2 n2 c2) (.slice A3 n3 c3) A4 n4 c4 wr (s1.keep HK.out) (s2.keep HK.out) (s3.keep HK.out) (s4.keep HK.out) hn4)
        clear hgo hr hfb hb s1 s2 s3 s4 hn4
        go_wp2_with fail
        refine HMW.out.mono ?_
        rintro e w9 ⟨rfl, hb9⟩
        have HF9 := Lib.hid (Blk.below HF2.out hb9 HF2.out.lt)
        have HB9 := Lib.hid (HB2.out.trans (hb9.mono HB2.out.size))
        have e0 : w9.cell? ⟨w.heap.size, 0, none⟩ = some (.int .i64 0) := HF9.out.cell 0
        have e1 : w9.cell? ⟨w.heap.size, 1, none⟩ = some (.int .i64 0) := HF9.out.cell 1
        have ef0 := HF9.out.frozen 0
        have ef1 := HF9.out.frozen 1
        clear hb9
        by_cases hz : ruleW r = 0
        · have HGO2 := Lib.hid (HGO.out.trans (if_neg (by rw [hz]; decide)))
          rw [hz]
          clear hz
          go_wp2_with fail
          exact ⟨⟨k + 1, by omega, by go_num, HGO2.out, HF9.out, HB9.out⟩, by simp [intOf]; omega⟩
        · have HGO2 := Lib.hid (HGO.out.trans (if_pos hz))
          go_wp2_with fail
          rw [HP.out, HGO2.out]
          exact bodyPost_ret (v := .agg #[.int .i64 (ruleW r), .int .i64 k]) (by simp [results, Try.results41, go_sem, e0, e1]) rfl ⟨rfl, (HB9.out.setCell (by simp) _).setCell (by simp) _⟩
      · obtain rfl : k = n := by omega
        rw [List.drop_of_length_le (by rw [HLEN.out]; omega)] at hgo
        have HG := Lib.hid (hgo.trans (show rulesGo k [] = (0, 0) from rfl))
        have e0 : wr.cell? ⟨w.heap.size, 0, none⟩ = some (.int .i64 0) := hfb.cell 0
        have e1 : wr.cell? ⟨w.heap.size, 1, none⟩ = some (.int .i64 0) := hfb.cell 1
        have ef0 := hfb.frozen 0
        have ef1 := hfb.frozen 1
        clear hgo
        go_wp2_with fail
        rw [HP.out, HG.out]
        exact bodyPost_ret (v := .agg #[.int .i64 0, .int .i64 0]) (by simp [results, Try.results41, go_sem, e0, e1]) rfl ⟨rfl, (hb.setCell (by simp) _).setCell (by simp) _⟩

end Go.Proofs.Ytfmebbnccjaadaa
