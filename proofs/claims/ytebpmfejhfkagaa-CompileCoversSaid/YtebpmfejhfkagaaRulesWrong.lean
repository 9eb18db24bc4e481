/- What is wrong with rules: rulesW, plain. The walks of run.Wrong and scriptref8.Wrong: both tell it. -/
import Derived.Test.YtebpmfejhfkagaaRuleWrongRef
namespace Go.Proofs.Ytebpmfejhfkagaa
open Go.RowKit

def rulesGo : Nat → List RuleD → Int × Int
  | _, [] => (0, 0)
  | i, r :: l => if ruleW r ≠ 0 then (ruleW r, (i : Int)) else rulesGo (i + 1) l
/-- What is wrong with rules, and at which one. -/
def rulesW (l : List RuleD) : Int × Int := if 200 < l.length then (5, 0) else rulesGo 0 l
/-- One rule of a list. -/
theorem rule_at {w : World} {X : Nat → Prop} {A : Option Addr} {n : Nat} {l : List RuleD} (h : ListX (RuleC w X) w X 7 A n l) {k : Nat} {r : RuleD} (hk : l[k]? = some r) :
    ∃ (b off : Nat) (A1 A2 A3 A4 : Option Addr) (n1 c1 n2 c2 n3 c3 n4 c4 : Nat), A = some ⟨b, off, none⟩ ∧ X b ∧ b < w.heap.size ∧
      (w.cell? ⟨b, off + k * 7, none⟩ = some (.bool r.start) ∧ w.cell? ⟨b, off + k * 7 + 1, none⟩ = some (.bool r.fin) ∧ w.cell? ⟨b, off + k * 7 + 2, none⟩ = some (.slice A1 n1 c1) ∧ w.cell? ⟨b, off + k * 7 + 3, none⟩ = some (.slice A2 n2 c2) ∧ w.cell? ⟨b, off + k * 7 + 4, none⟩ = some (.slice A3 n3 c3) ∧ w.cell? ⟨b, off + k * 7 + 5, none⟩ = some (.slice A4 n4 c4) ∧ w.cell? ⟨b, off + k * 7 + 6, none⟩ = some (.int .i64 r.cursor)) ∧
      SetsV w X r.before (.slice A1 n1 c1) ∧ SetsV w X r.source (.slice A2 n2 c2) ∧ SetsV w X r.after (.slice A3 n3 c3) ∧ RdX w X 1 A4 n4 (runeCells r.target) ∧ n4 ≤ maxLen := by
  obtain ⟨b, off, cs, e, hx, hb, ⟨u1, u2, u3, A4, n4, c4, rfl, h1, h2, h3, h4, h5⟩, _, hc⟩ := h.at hk
  obtain ⟨A1, n1, c1, rfl, h1⟩ := h1
  obtain ⟨A2, n2, c2, rfl, h2⟩ := h2
  obtain ⟨A3, n3, c3, rfl, h3⟩ := h3
  exact ⟨b, off, A1, A2, A3, A4, n1, c1, n2, c2, n3, c3, n4, c4, e, hx, hb, ⟨hc 0 _ rfl, hc 1 _ rfl, hc 2 _ rfl, hc 3 _ rfl, hc 4 _ rfl, hc 5 _ rfl, hc 6 _ rfl⟩, ⟨_, _, _, rfl, h1⟩, ⟨_, _, _, rfl, h2⟩, ⟨_, _, _, rfl, h3⟩, h4, h5⟩

def RsRel (w : World) (l : List RuleD) (n : Nat) (i : Value) (wr : World) : Prop :=
  ∃ k : Nat, k ≤ n ∧ i = .int .i64 k ∧ rulesGo 0 l = rulesGo k (l.drop k) ∧ Blk wr w.heap.size 26 #[.int .i64 0, .int .i64 0] ∧ Below w.heap.size w wr

set_option maxRecDepth 100000 in
set_option maxHeartbeats 1600000 in
theorem run_wrong (X : Nat → Prop) (l : List RuleD) (A : Option Addr) (n c : Nat) (w : World) (hn : n ≤ maxLen) (hl : ListX (RuleC w X) w X 7 A n l) :
    Calls Try.prog 13 #[.slice A n c] w fun e w' => e = .returned (.agg #[.int .i64 (rulesW l).1, .int .i64 (rulesW l).2]) ∧ Below w.heap.size w w' := by
  have HLEN := Lib.hid (show l.length = n from hl.len)
  have HL := Lib.hid hl
  have HF0 := Lib.hid (Blk.new w 26 #[.int .i64 0, .int .i64 0])
  clear hl
  simp only [maxLen] at hn
  by_cases h2 : 200 < n
  · have HP := Lib.hid (show rulesW l = (5, 0) by unfold rulesW; rw [if_pos (by rw [HLEN.out]; exact h2)])
    go_enter Try.func13, Try.ntmps13
    go_wp2_with fail
    rw [HP.out]
    exact bodyPost_ret (v := .agg #[.int .i64 5, .int .i64 0]) (by simp [results, Try.results13, go_sem]) rfl ⟨rfl, (Below.refl _ _).alloc (Nat.le_refl _) _⟩
  · have HP := Lib.hid (show rulesW l = rulesGo 0 l by unfold rulesW; rw [if_neg (by rw [HLEN.out]; exact h2)])
    go_enter Try.func13, Try.ntmps13
    go_wp2_with fail
    go_loopw [12] (RsRel w l n) (fun i _ => n - (intOf i).toNat)
    case atStart => exact ⟨0, Nat.zero_le _, rfl, rfl, HF0.out, (Below.refl _ _).alloc (Nat.le_refl _) _⟩
    case round =>
      obtain ⟨k, hk, rfl, hgo, hfb, hb⟩ := hrel
      have hz := hb.size
      by_cases hlt : k < n
      · obtain ⟨r, hr⟩ : ∃ z, l[k]? = some z := ⟨_, List.getElem?_eq_getElem (by rw [HLEN.out]; exact hlt)⟩
        obtain ⟨b, off, A1, A2, A3, A4, n1, c1, n2, c2, n3, c3, n4, c4, rfl, _, hbb, ⟨d0, d1, d2, d3, d4, d5, d6⟩, s1, s2, s3, s4, hn4⟩ := rule_at (HL.out.keep (Keeps.any hb) (fun _ _ => RuleC.keep (Keeps.any hb))) hr
        rw [drop_at hr, rulesGo] at hgo
        have HGO := Lib.hid hgo
        have HR := Lib.hid hr
        have HF2 := Lib.hid (hfb.alloc (.cells #[.bool r.start, .bool r.fin, .slice A1 n1 c1, .slice A2 n2 c2, .slice A3 n3 c3, .slice A4 n4 c4, .int .i64 r.cursor] 43))
        have HB2 := Lib.hid (hb.alloc hb.size (.cells #[.bool r.start, .bool r.fin, .slice A1 n1 c1, .slice A2 n2 c2, .slice A3 n3 c3, .slice A4 n4 c4, .int .i64 r.cursor] 43))
        have HK := Lib.hid (Keeps.any (X := X) ((Below.refl wr.heap.size wr).alloc (Nat.le_refl _) (.cells #[.bool r.start, .bool r.fin, .slice A1 n1 c1, .slice A2 n2 c2, .slice A3 n3 c3, .slice A4 n4 c4, .int .i64 r.cursor] 43)))
        have HMW := Lib.hid (match_wrong r X (.slice A1 n1 c1) (.slice A2 n2 c2) (.slice A3 n3 c3) A4 n4 c4 (wr.alloc (.cells #[.bool r.start, .bool r.fin, .slice A1 n1 c1, .slice A2 n2 c2, .slice A3 n3 c3, .slice A4 n4 c4, .int .i64 r.cursor] 43)) (s1.keep HK.out) (s2.keep HK.out) (s3.keep HK.out) (s4.keep HK.out) hn4)
        clear hgo hr hfb hb s1 s2 s3 s4 hn4
        go_wp2_with fail
        refine HMW.out.mono ?_
        rintro e w9 ⟨rfl, hb9⟩
        have HF9 := Lib.hid (Blk.below HF2.out hb9 HF2.out.lt)
        have HB9 := Lib.hid (HB2.out.trans (hb9.mono HB2.out.size))
        have e0 : w9.cell? ⟨w.heap.size, 0, none⟩ = some (.int .i64 0) := HF9.out.cell 0
        have e1 : w9.cell? ⟨w.heap.size, 1, none⟩ = some (.int .i64 0) := HF9.out.cell 1
        have ef0 := HF9.out.frozen 0
        have ef1 := HF9.out.frozen 1
        clear hb9
        by_cases hz : ruleW r = 0
        · have HGO2 := Lib.hid (HGO.out.trans (if_neg (by rw [hz]; decide)))
          rw [hz]
          clear hz
          go_wp2_with fail
          exact ⟨⟨k + 1, by omega, by go_num, HGO2.out, HF9.out, HB9.out⟩, by simp [intOf]; omega⟩
        · have HGO2 := Lib.hid (HGO.out.trans (if_pos hz))
          go_wp2_with fail
          rw [HP.out, HGO2.out]
          exact bodyPost_ret (v := .agg #[.int .i64 (ruleW r), .int .i64 k]) (by simp [results, Try.results13, go_sem, e0, e1]) rfl ⟨rfl, (HB9.out.setCell (by simp) _).setCell (by simp) _⟩
      · obtain rfl : k = n := by omega
        rw [List.drop_of_length_le (by rw [HLEN.out]; omega)] at hgo
        have HG := Lib.hid (hgo.trans (show rulesGo k [] = (0, 0) from rfl))
        have e0 : wr.cell? ⟨w.heap.size, 0, none⟩ = some (.int .i64 0) := hfb.cell 0
        have e1 : wr.cell? ⟨w.heap.size, 1, none⟩ = some (.int .i64 0) := hfb.cell 1
        have ef0 := hfb.frozen 0
        have ef1 := hfb.frozen 1
        clear hgo
        go_wp2_with fail
        rw [HP.out, HG.out]
        exact bodyPost_ret (v := .agg #[.int .i64 0, .int .i64 0]) (by simp [results, Try.results13, go_sem, e0, e1]) rfl ⟨rfl, (hb.setCell (by simp) _).setCell (by simp) _⟩

set_option maxRecDepth 100000 in
set_option maxHeartbeats 1600000 in
theorem ref8_wrong (X : Nat → Prop) (l : List RuleD) (A : Option Addr) (n c : Nat) (w : World) (hn : n ≤ maxLen) (hl : ListX (RuleC w X) w X 7 A n l) :
    Calls Try.prog 18 #[.slice A n c] w fun e w' => e = .returned (.agg #[.int .i64 (rulesW l).1, .int .i64 (rulesW l).2]) ∧ Below w.heap.size w w' := by
  have HLEN := Lib.hid (show l.length = n from hl.len)
  have HL := Lib.hid hl
  have HF0 := Lib.hid (Blk.new w 26 #[.int .i64 0, .int .i64 0])
  clear hl
  simp only [maxLen] at hn
  by_cases h2 : 200 < n
  · have HP := Lib.hid (show rulesW l = (5, 0) by unfold rulesW; rw [if_pos (by rw [HLEN.out]; exact h2)])
    go_enter Try.func18, Try.ntmps18
    go_wp2_with fail
    rw [HP.out]
    exact bodyPost_ret (v := .agg #[.int .i64 5, .int .i64 0]) (by simp [results, Try.results18, go_sem]) rfl ⟨rfl, (Below.refl _ _).alloc (Nat.le_refl _) _⟩
  · have HP := Lib.hid (show rulesW l = rulesGo 0 l by unfold rulesW; rw [if_neg (by rw [HLEN.out]; exact h2)])
    go_enter Try.func18, Try.ntmps18
    go_wp2_with fail
    go_loopw [11] (RsRel w l n) (fun i _ => n - (intOf i).toNat)
    case atStart => exact ⟨0, Nat.zero_le _, rfl, rfl, HF0.out, (Below.refl _ _).alloc (Nat.le_refl _) _⟩
    case round =>
      obtain ⟨k, hk, rfl, hgo, hfb, hb⟩ := hrel
      have hz := hb.size
      by_cases hlt : k < n
      · obtain ⟨r, hr⟩ : ∃ z, l[k]? = some z := ⟨_, List.getElem?_eq_getElem (by rw [HLEN.out]; exact hlt)⟩
        obtain ⟨b, off, A1, A2, A3, A4, n1, c1, n2, c2, n3, c3, n4, c4, rfl, _, hbb, ⟨d0, d1, d2, d3, d4, d5, d6⟩, s1, s2, s3, s4, hn4⟩ := rule_at (HL.out.keep (Keeps.any hb) (fun _ _ => RuleC.keep (Keeps.any hb))) hr
        rw [drop_at hr, rulesGo] at hgo
        have HGO := Lib.hid hgo
        have HR := Lib.hid hr
        have HF2 := Lib.hid hfb
        have HB2 := Lib.hid hb
        have HK := Lib.hid (Keeps.any (X := X) ((Below.refl wr.heap.size wr)))
        have HMW := Lib.hid (ref_rule_wrong r X (.slice A1 n1 c1) (.slice A2 n2 c2) (.slice A3 n3 c3) A4 n4 c4 wr (s1.keep HK.out) (s2.keep HK.out) (s3.keep HK.out) (s4.keep HK.out) hn4)
        clear hgo hr hfb hb s1 s2 s3 s4 hn4
        go_wp2_with fail
        refine HMW.out.mono ?_
        rintro e w9 ⟨rfl, hb9⟩
        have HF9 := Lib.hid (Blk.below HF2.out hb9 HF2.out.lt)
        have HB9 := Lib.hid (HB2.out.trans (hb9.mono HB2.out.size))
        have e0 : w9.cell? ⟨w.heap.size, 0, none⟩ = some (.int .i64 0) := HF9.out.cell 0
        have e1 : w9.cell? ⟨w.heap.size, 1, none⟩ = some (.int .i64 0) := HF9.out.cell 1
        have ef0 := HF9.out.frozen 0
        have ef1 := HF9.out.frozen 1
        clear hb9
        by_cases hz : ruleW r = 0
        · have HGO2 := Lib.hid (HGO.out.trans (if_neg (by rw [hz]; decide)))
          rw [hz]
          clear hz
          go_wp2_with fail
          exact ⟨⟨k + 1, by omega, by go_num, HGO2.out, HF9.out, HB9.out⟩, by simp [intOf]; omega⟩
        · have HGO2 := Lib.hid (HGO.out.trans (if_pos hz))
          go_wp2_with fail
          rw [HP.out, HGO2.out]
          exact bodyPost_ret (v := .agg #[.int .i64 (ruleW r), .int .i64 k]) (by simp [results, Try.results18, go_sem, e0, e1]) rfl ⟨rfl, (HB9.out.setCell (by simp) _).setCell (by simp) _⟩
      · obtain rfl : k = n := by omega
        rw [List.drop_of_length_le (by rw [HLEN.out]; omega)] at hgo
        have HG := Lib.hid (hgo.trans (show rulesGo k [] = (0, 0) from rfl))
        have e0 : wr.cell? ⟨w.heap.size, 0, none⟩ = some (.int .i64 0) := hfb.cell 0
        have e1 : wr.cell? ⟨w.heap.size, 1, none⟩ = some (.int .i64 0) := hfb.cell 1
        have ef0 := hfb.frozen 0
        have ef1 := hfb.frozen 1
        clear hgo
        go_wp2_with fail
        rw [HP.out, HG.out]
        exact bodyPost_ret (v := .agg #[.int .i64 0, .int .i64 0]) (by simp [results, Try.results18, go_sem, e0, e1]) rfl ⟨rfl, (hb.setCell (by simp) _).setCell (by simp) _⟩

end Go.Proofs.Ytebpmfejhfkagaa
