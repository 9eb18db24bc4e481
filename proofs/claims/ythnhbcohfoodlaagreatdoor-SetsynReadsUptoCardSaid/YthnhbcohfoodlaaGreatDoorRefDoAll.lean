/- scriptref2.Build: the set of the runes of which a function holds: it tells buildP. -/
import Derived.Test.YthnhbcohfoodlaaGreatDoorSetMerge
import Derived.Test.YthnhbcohfoodlaaGreatDoorSetOps
import Derived.Deep.DeepCutAuto
import Derived.Deep.CutBlock
import Derived.Test.YthnhbcohfoodlaaGreatDoorSetP
import Derived.Test.YthnhbcohfoodlaaGreatDoorMem
import Derived.Test.YthnhbcohfoodlaaGreatDoorSpan
import Derived.Test.YthnhbcohfoodlaaGreatDoorSetFour
import Derived.Test.YthnhbcohfoodlaaGreatDoorHeldTill
import Derived.Test.YthnhbcohfoodlaaGreatDoorRefWkAll
import Derived.Test.YthnhbcohfoodlaaGreatDoorSynMono
namespace Go.Proofs.YthnhbcohfoodlaaGreatDoor
open Go.RowKit

/-- A set in new memory, and what is wrong (as package sets' SetTuple says it). -/
def BuPost (w : World) (r : Spans × Int) (e : Ending) (w' : World) : Prop := ∃ A' n' c', e = .returned (.tuple #[.slice A' n' c', .int .i64 r.2]) ∧ RdX w' (fun b => w.heap.size ≤ b) 2 A' n' (spanCells r.1) ∧ n' ≤ 200 ∧ n' ≤ c' ∧ Below w.heap.size w w'
def BuRel (w : World) (E : List Int) (h : Int → Bool) (n : Nat) (out i : Value) (wr : World) : Prop :=
  ∃ (j k : Nat), j ≤ n ∧ i = .int .i64 j ∧ k ≤ j ∧ wr.ownsRow w.heap.size 74 2 out k (spanCells (buildUpto E h j)) ∧ (buildUpto E h j).length = k ∧ Below w.heap.size w wr
theorem buildUpto_same {E : List Int} {h : Int → Bool} {j : Nat} {a : Int} (ha : E[j]? = some a) (hh : h a = false) : buildUpto E h (j + 1) = buildUpto E h j := by
  rw [buildUpto_succ ha, if_neg (by rw [hh]; decide)]
theorem buildUpto_step {E : List Int} {h : Int → Bool} {j : Nat} {a : Int} (ha : E[j]? = some a) (hh : h a = true) : buildUpto E h (j + 1) = stepB (buildUpto E h j) a (gapEnd E j) := by
  rw [buildUpto_succ ha, if_pos hh]

set_option maxHeartbeats 3200000 in
set_option maxRecDepth 100000 in
theorem ref_build (f : Nat) (cap : Array Value) (A : Option Addr) (n c : Nat) (E : List Int) (h : Int → Bool) (w : World) (eg : ∀ args w, (callFunc f args).run Tryz.prog w = .ok (.enter f args) w)
    (hn : n ≤ 100000) (hE : EdgesOk E h) (hl : Rd w w.heap.size 1 A n (runeCells E))
    (hf : ∀ (W : World) (r : Int), Below w.heap.size w W → Calls Tryz.prog f (#[.int .i32 r] ++ cap) W fun e w2 => e = .returned (.bool (h r)) ∧ Below W.heap.size W w2) :
    Calls Tryz.prog 133 #[.slice A n c, .func (.func f) #[] cap] w (BuPost w (buildP E h)) := by
  obtain ⟨i0, hi, z0, z1, z2⟩ := info_parts infoSpan
  have HLEN := Lib.hid (show E.length = n by have := hl.1; rw [runeCells_length] at this; omega)
  have HL := Lib.hid hl
  have HE := Lib.hid hE
  have HF := Lib.hid hf
  clear hl hE hf
  go_enter Tryz.func133, Tryz.ntmps133
  go_wp2_with fail
  go_loopw [6, 13] (BuRel w E h n) (fun _ i _ => n - (intOf i).toNat)
  case atStart => exact ⟨0, 0, Nat.zero_le _, rfl, Nat.le_refl _, World.ownsRow_nil _ _ _ _, rfl, Below.refl _ _⟩
  case round =>
    obtain ⟨j, k, hj, rfl, hk, hown, hkl, hb⟩ := hrel
    have hz := hb.size
    by_cases hlt : j < n
    · obtain ⟨a, ha⟩ : ∃ a, E[j]? = some a := ⟨_, List.getElem?_eq_getElem (by rw [HLEN.out]; exact hlt)⟩
      obtain ⟨b, off, rfl, hbb, hcells⟩ := HL.out.2 (by omega)
      have d0 : wr.cell? ⟨b, off + j, none⟩ = some (.int .i32 a) := (hb.cell (p := ⟨b, off + j, none⟩) hbb).trans (hcells j _ (by rw [runeCells_at, ha]; rfl))
      have HCL := Lib.hid hcells
      have HCALL := Lib.hid (HF.out wr a hb)
      obtain ⟨g0, g1, g2, _⟩ := gap_le HE.out ha
      have hcan := (build_upto HE.out j (by rw [HLEN.out]; omega)).1
      clear hcells
      cases hh : h a with
      | false =>
        rw [hh] at HCALL
        have HS := Lib.hid (buildUpto_same ha hh)
        have HO := Lib.hid hown
        have HB := Lib.hid hb
        have HK := Lib.hid hkl
        clear hh ha hown hb hkl hcan
        go_wp2_with fail
        refine HCALL.out.mono ?_
        rintro e w1 ⟨rfl, hb1⟩
        have HB1 := Lib.hid (HB.out.trans (hb1.mono hz))
        have HO1 := Lib.hid (own_below HO.out hb1)
        clear hb1
        go_wp2_with fail
        exact ⟨⟨j + 1, k, by omega, by go_num, by omega, by rw [HS.out]; exact HO1.out, by rw [HS.out]; exact HK.out, HB1.out⟩, by simp [intOf]; omega⟩
      | true =>
        rw [hh] at HCALL
        have HS := Lib.hid (buildUpto_step ha hh)
        have HO := Lib.hid hown
        have HB := Lib.hid hb
        have HK := Lib.hid hkl
        have HA := Lib.hid ha
        have HC := Lib.hid hcan
        clear hh ha hown hb hkl hcan
        have hw1 : IntKind.i64.wrap ((j : Int) + 1) = ((j + 1 : Nat) : Int) := by rw [wrap_small _ (by omega) (by omega)]; omega
        have HEQ := Lib.hid (show (j + 1 < n ∧ ∃ y, E[j + 1]? = some y ∧ gapEnd E j = y - 1 ∧ 0 ≤ y ∧ y ≤ 1114111) ∨ (¬ j + 1 < n ∧ gapEnd E j = 1114111) by
          by_cases hl : j + 1 < n
          · obtain ⟨y, hy⟩ : ∃ y, E[j + 1]? = some y := ⟨_, List.getElem?_eq_getElem (by rw [HLEN.out]; exact hl)⟩
            have hg : gapEnd E j = y - 1 := by unfold gapEnd; rw [hy]
            exact .inl ⟨hl, y, hy, hg, by omega, HE.out.top y (List.mem_of_getElem? hy)⟩
          · exact .inr ⟨hl, by unfold gapEnd; rw [List.getElem?_eq_none (by rw [HLEN.out]; omega)]⟩)
        generalize gapEnd E j = ge at *
        go_upto_if 26 with (refine HCALL.out.mono ?_; rintro e w1 ⟨rfl, hb1⟩)
        have HB1 := Lib.hid (HB.out.trans (hb1.mono hz))
        have HO1 := Lib.hid (own_below HO.out hb1)
        clear hb1
        go_cut [9] (fun v wx => v = .int .i32 ge ∧ wx = w1)
        case first =>
          rcases HEQ.out with ⟨hl, y, hy, hge, y0, y1⟩ | ⟨hl, hge⟩
          · have d1 : w1.cell? ⟨b, off + (j + 1), none⟩ = some (.int .i32 y) := (HB1.out.cell (p := ⟨b, off + (j + 1), none⟩) hbb).trans (HCL.out (j + 1) _ (by rw [runeCells_at, hy]; rfl))
            have hg1 : decide (((j + 1 : Nat) : Int) < (n : Int)) = true := decide_eq_true (by omega)
            have hk0 : (0 : Int) ≤ ((j + 1 : Nat) : Int) := by omega
            have hk1 : ((j + 1 : Nat) : Int) < (n : Int) := by omega
            clear hy
            go_wp2_with fail
            go_meet
            exact ⟨by rw [hge], rfl⟩
          · have hg1 : decide (((j + 1 : Nat) : Int) < (n : Int)) = false := decide_eq_false (by omega)
            go_wp2_with fail
            go_meet
            exact ⟨by rw [hge], rfl⟩
        case rest =>
          obtain ⟨rfl, rfl⟩ := hcut
          have hz1 := HB1.out.size
          have hown := HO1.out
          have hkl := HK.out
          have hst := HS.out
          have hcan := HC.out
          have HNW := Lib.hid (show Rd (wc.alloc (.cells #[.int .i32 a, .int .i32 ge] 74)) (wc.heap.size + 1) 2 (some ⟨wc.heap.size, 0, none⟩) 1 [.int .i32 a, .int .i32 ge] from Rd.new wc 74 2 1 [.int .i32 a, .int .i32 ge] rfl)
          have HO2 := Lib.hid (World.ownsRow.alloc HO1.out (.cells #[.int .i32 a, .int .i32 ge] 74))
          have HB2 := Lib.hid (HB1.out.alloc HB1.out.size (.cells #[.int .i32 a, .int .i32 ge] 74))
          generalize buildUpto E h j = acc at *
          rcases List.eq_nil_or_concat acc with rfl | ⟨i, q, rfl⟩
          · obtain rfl : k = 0 := by simpa using hkl.symm
            rw [stepB_nil] at hst
            have HST := Lib.hid hst
            obtain ⟨Av, cv, rfl, hcv⟩ := own_form hown
            clear hst hown hkl hcan HC HS HK HO
            have hw0 : IntKind.i64.wrap (((0 : Nat) : Int) - 1) = -1 := by decide
            go_wp2_with (at_builtin; refine wpList_append_rd _ rfl (.tmp 53) (.tmp 57) 22 rfl w.heap.size 74 i0 _ 2 8 Tryz.underlying22 hi z0 z1 z2 rfl (by decide) _ _ _ rfl HO2.out (wc.heap.size + 1) (some ⟨wc.heap.size, 0, none⟩) 1 1 [.int .i32 a, .int .i32 ge] rfl HNW.out (span_one _ _) (by simp only [maxLen]; omega) (by omega) HB2.out.size ?_)
            intro v' w9 happ
            have HB9 := Lib.hid (HB2.out.trans (happ.below HB2.out.size HO2.out))
            have HO9 := Lib.hid (show w9.ownsRow w.heap.size 74 2 v' 1 (spanCells [(a, ge)]) from happ.own)
            clear happ
            go_wp2_with fail
            exact ⟨⟨j + 1, 1, by omega, by go_num, by omega, by rw [HST.out]; exact HO9.out, by rw [HST.out]; rfl, HB9.out⟩, by simp [intOf]; omega⟩
          · rw [List.concat_eq_append] at hown hkl hst hcan
            rw [stepB_snoc] at hst
            obtain ⟨m, hm⟩ : ∃ m, i.length = m := ⟨_, rfl⟩
            obtain rfl : k = m + 1 := by rw [← hkl, List.length_append, hm]; rfl
            obtain ⟨p1, p2⟩ := q
            have hp := hcan.each (p1, p2) (by simp)
            simp only at hp hst
            obtain ⟨g, cv, rfl, hcv, hg, hgl⟩ := own_some hown (by omega)
            have HIL := Lib.hid hm
            have hcell : (spanCells (i ++ [(p1, p2)]))[m * 2 + 1]? = some (.int .i32 p2) := (spanCells_at _ m p1 p2 (by rw [← hm]; simp)).2
            have e0 : wc.cell? ⟨g, m * 2 + 1, none⟩ = some (.int .i32 p2) := by rw [hown.cellAt _ (by omega)]; exact hcell
            have f0 : wc.frozen? ⟨g, m * 2 + 1, none⟩ = false := hown.frozenAt _
            have hw1 : IntKind.i64.wrap (((m + 1 : Nat) : Int) - 1) = (m : Int) := by rw [wrap_small _ (by omega) (by omega)]; omega
            have hk0 : (0 : Int) ≤ (m : Int) := by omega
            have hk1 : (m : Int) < ((m + 1 : Nat) : Int) := by omega
            have hg0 : decide ((0 : Int) ≤ (m : Int)) = true := decide_eq_true hk0
            have HOW := Lib.hid hown
            clear hcell hm hkl hown hcan HC HS HK HO
            by_cases hle : p2 + 1 = a
            · rw [if_pos hle] at hst
              have HST := Lib.hid hst
              have hd : (p2 + 1 == a) = true := by rw [beq_iff_eq]; exact hle
              have HO3 := Lib.hid (show (wc.setCell ⟨g, m * 2 + 1, none⟩ (.int .i32 ge)).ownsRow w.heap.size 74 2 (.slice (some ⟨g, 0, none⟩) (m + 1) cv) (m + 1) (spanCells (i ++ [(p1, ge)])) by
                have := (HOW.out.stored (m * 2 + 1) (.int .i32 ge)).1
                rw [← HIL.out, spanCells_setHigh] at this
                rw [← HIL.out]
                exact this)
              have HB3 := Lib.hid (HB1.out.setCell (p := ⟨g, m * 2 + 1, none⟩) hg (.int .i32 ge))
              clear hst
              go_wp2_with fail
              exact ⟨⟨j + 1, m + 1, by omega, by go_num, by omega, by rw [HST.out]; exact HO3.out, by rw [HST.out]; simp [HIL.out], HB3.out⟩, by simp [intOf]; omega⟩
            · rw [if_neg hle] at hst
              have HST := Lib.hid hst
              have hd : (p2 + 1 == a) = false := by rw [beq_eq_false_iff_ne]; exact hle
              clear hst
              go_wp2_with (at_builtin; refine wpList_append_rd _ rfl (.tmp 53) (.tmp 57) 22 rfl w.heap.size 74 i0 _ 2 8 Tryz.underlying22 hi z0 z1 z2 rfl (by decide) _ _ _ rfl HO2.out (wc.heap.size + 1) (some ⟨wc.heap.size, 0, none⟩) 1 1 [.int .i32 a, .int .i32 ge] rfl HNW.out (span_one _ _) (by simp only [maxLen]; omega) (by omega) HB2.out.size ?_)
              intro v' w9 happ
              have HB9 := Lib.hid (HB2.out.trans (happ.below HB2.out.size HO2.out))
              have HO9 := Lib.hid (show w9.ownsRow w.heap.size 74 2 v' (m + 1 + 1) (spanCells (i ++ [(p1, p2)] ++ [(a, ge)])) by have := happ.own; rw [spanCells_snoc (i ++ [(p1, p2)])]; exact this)
              clear happ
              go_wp2_with fail
              exact ⟨⟨j + 1, m + 1 + 1, by omega, by go_num, by omega, by rw [HST.out]; exact HO9.out, by rw [HST.out]; simp [HIL.out], HB9.out⟩, by simp [intOf]; omega⟩
    · obtain rfl : j = n := by omega
      have HO := Lib.hid hown
      have HK := Lib.hid hkl
      have HB := Lib.hid hb
      have HR := Lib.hid (show buildP E h = if 200 < k then ([], 5) else (buildUpto E h j, 0) by unfold buildP; rw [HLEN.out, hkl])
      obtain ⟨Av, cv, rfl, hcv⟩ := own_form hown
      clear hown hkl hb
      by_cases h2 : 200 < k
      · rw [if_pos h2] at HR
        go_wp2_with fail
        go_ret2
        rw [HR.out]
        exact ⟨none, 0, 0, rfl, ⟨rfl, fun h => absurd h (by omega)⟩, by omega, by omega, HB.out⟩
      · rw [if_neg h2] at HR
        go_wp2_with fail
        go_ret2
        rw [HR.out]
        exact ⟨Av, k, cv, rfl, RdX.of_own HO.out (fun b hb => (own_lt HO.out hb).1), by omega, hcv, HB.out⟩

end Go.Proofs.YthnhbcohfoodlaaGreatDoor

/- scriptref2.Has: of any spans it tells hasP. -/
namespace Go.Proofs.YthnhbcohfoodlaaGreatDoor
open Go.RowKit

def RhRel (w : World) (s : Spans) (r : Int) (n : Nat) (i : Value) (wr : World) : Prop :=
  ∃ j : Nat, j ≤ n ∧ i = .int .i64 j ∧ hasP s r = hasP (s.drop j) r ∧ Below w.heap.size w wr
set_option maxRecDepth 100000 in
set_option maxHeartbeats 1600000 in
theorem ref2_has (A : Option Addr) (n c : Nat) (s : Spans) (r : Int) (w : World) (hn : n ≤ 9223372036854775807) (hl : RdS w w.heap.size A n s) :
    Calls Tryz.prog 136 #[.slice A n c, .int .i32 r] w fun e w' => e = .returned (.bool (hasP s r)) ∧ Below w.heap.size w w' := by
  have HLEN := Lib.hid hl.len
  have HL := Lib.hid hl
  clear hl
  go_enter Tryz.func136, Tryz.ntmps136
  go_wp2_with fail
  go_loopw [9] (RhRel w s r n) (fun i _ => n - (intOf i).toNat)
  case atStart => exact ⟨0, Nat.zero_le _, rfl, rfl, Below.refl _ _⟩
  case round =>
    obtain ⟨j, hj, rfl, hgo, hb⟩ := hrel
    have hz := hb.size
    by_cases hlt : j < n
    · obtain ⟨⟨x, y⟩, hx⟩ : ∃ z, s[j]? = some z := ⟨_, List.getElem?_eq_getElem (by rw [HLEN.out]; exact hlt)⟩
      obtain ⟨b, off, rfl, hbb, c0, c1⟩ := HL.out.at hx
      have d0 := (hb.cell (p := ⟨b, off + j * 2, none⟩) hbb).trans c0
      have d1 := (hb.cell (p := ⟨b, off + j * 2 + 1, none⟩) hbb).trans c1
      rw [drop_at hx, show hasP ((x, y) :: s.drop (j + 1)) r = ((decide (x ≤ r) && decide (r ≤ y)) || hasP (s.drop (j + 1)) r) from rfl] at hgo
      have HG := Lib.hid hgo
      have HX := Lib.hid hx
      have HB := Lib.hid (hb.alloc hz (.cells #[.int .i32 x, .int .i32 y] 74))
      clear hgo hx c0 c1
      by_cases h1 : x ≤ r
      · by_cases h2 : r ≤ y
        · have HE := Lib.hid (show hasP s r = true by rw [HG.out, decide_eq_true h1, decide_eq_true h2]; rfl)
          go_wp2_with fail
          go_ret
          rw [HE.out]
          exact ⟨rfl, HB.out⟩
        · have HE := Lib.hid (show hasP s r = hasP (s.drop (j + 1)) r by rw [HG.out, decide_eq_false h2, Bool.and_false, Bool.false_or])
          go_wp2_with fail
          exact ⟨⟨j + 1, by omega, by go_num, HE.out, HB.out⟩, by simp [intOf]; omega⟩
      · have HE := Lib.hid (show hasP s r = hasP (s.drop (j + 1)) r by rw [HG.out, decide_eq_false h1, Bool.false_and, Bool.false_or])
        have hd : decide (x ≤ r) = false := decide_eq_false h1
        go_wp2_with fail
        exact ⟨⟨j + 1, by omega, by go_num, HE.out, HB.out⟩, by simp [intOf]; omega⟩
    · obtain rfl : j = n := by omega
      rw [List.drop_of_length_le (by rw [HLEN.out]; omega)] at hgo
      have HG := Lib.hid (hgo.trans (show hasP [] r = false from rfl))
      clear hgo
      go_wp2_with fail
      go_ret
      rw [HG.out]
      exact ⟨rfl, hb⟩

end Go.Proofs.YthnhbcohfoodlaaGreatDoor

/- What is wrong with a set of runes, by the document's answer: the walk of scriptref2.Wrong: it tells wrongP. -/
namespace Go.Proofs.YthnhbcohfoodlaaGreatDoor
open Go.RowKit

set_option maxRecDepth 100000 in
set_option maxHeartbeats 1600000 in
theorem ref2_wrong (A : Option Addr) (n c : Nat) (l : Spans) (w : World) (hn : n ≤ 9223372036854775807) (hl : RdS w w.heap.size A n l) :
    Calls Tryz.prog 132 #[.slice A n c] w fun e w' => e = .returned (.int .i64 (wrongP l)) ∧ Below w.heap.size w w' := by
  have HLEN := Lib.hid hl.len
  have HL := Lib.hid hl
  clear hl
  by_cases h2 : 200 < n
  · have HP := Lib.hid (show wrongP l = 5 by unfold wrongP; rw [if_pos (by rw [HLEN.out]; exact h2)])
    go_enter Tryz.func132, Tryz.ntmps132
    go_wp2_with fail
    go_ret
    rw [HP.out]
    exact ⟨rfl, Below.refl _ _⟩
  · have HP := Lib.hid (show wrongP l = wrongGo none l by unfold wrongP; rw [if_neg (by rw [HLEN.out]; exact h2)])
    go_enter Tryz.func132, Tryz.ntmps132
    go_wp2_with fail
    go_loopw [10] (WrongRel w l n) (fun i _ => n - (intOf i).toNat)
    case atStart => exact ⟨0, Nat.zero_le _, rfl, rfl, by simp [prevOf], Below.refl _ _⟩
    case round =>
      obtain ⟨j, hj, rfl, hgo, hpv, hb⟩ := hrel
      have hz := hb.size
      by_cases hlt : j < n
      · obtain ⟨⟨x, y⟩, hx⟩ : ∃ z, l[j]? = some z := ⟨_, List.getElem?_eq_getElem (by rw [HLEN.out]; exact hlt)⟩
        obtain ⟨b, off, rfl, hbb, c0, c1⟩ := HL.out.at hx
        have d0 := (hb.cell (p := ⟨b, off + j * 2, none⟩) hbb).trans c0
        have d1 := (hb.cell (p := ⟨b, off + j * 2 + 1, none⟩) hbb).trans c1
        rw [drop_at hx, wrongGo] at hgo
        by_cases hr : x < 0 ∨ 1114111 < y ∨ y < x
        · rw [if_pos hr] at hgo
          have HG := Lib.hid hgo
          have HX := Lib.hid hx
          clear hgo hx c0 c1 hpv
          rcases (show x < 0 ∨ (0 ≤ x ∧ y < x) ∨ (0 ≤ x ∧ x ≤ y ∧ 1114111 < y) by omega) with h1 | ⟨h1, h2⟩ | ⟨h1, h2, h3⟩
          all_goals
            clear hr
            go_wp2_with fail
            go_ret
            rw [HP.out, HG.out]
            exact ⟨rfl, hb.alloc hz _⟩
        · rw [if_neg hr] at hgo
          have hr1 : 0 ≤ x := by omega
          have hr2 : y ≤ 1114111 := by omega
          have hr3 : x ≤ y := by omega
          have hpv2 : ∀ h, prevOf l (j + 1) = some h → h ≤ 1114111 ∧ 0 ≤ h := by
            intro h hh
            simp only [prevOf, hx, Option.map_some, Option.some.injEq] at hh
            omega
          have hprev : prevOf l (j + 1) = some y := by simp [prevOf, hx]
          clear hr
          cases j with
          | zero =>
            rw [if_neg (by simp [prevOf, touch])] at hgo
            rw [← hprev] at hgo
            have HG := Lib.hid hgo
            have HX := Lib.hid hx
            have HPV := Lib.hid hpv2
            clear hgo hx c0 c1 hpv hpv2 hprev
            simp only [Nat.zero_mul, Nat.add_zero] at d0 d1
            go_wp2_with fail
            go_quiet (fail)
            go_wp2_with fail
            exact ⟨⟨1, by omega, by go_num, HG.out, HPV.out, below_drewN (hb.alloc hz _) _⟩, by simp [intOf]; omega⟩
          | succ j =>
            obtain ⟨⟨p, h⟩, hp⟩ : ∃ z, l[j]? = some z := ⟨_, List.getElem?_eq_getElem (by rw [HLEN.out]; omega)⟩
            have hh : prevOf l (j + 1) = some h := by simp [prevOf, hp]
            obtain ⟨hh1, hh2⟩ := hpv h hh
            obtain ⟨b2, off2, e2, _, _, c3⟩ := HL.out.at hp
            cases e2
            have d3 : (wr.alloc (Obj.cells #[Value.int IntKind.i32 x, Value.int IntKind.i32 y] 74)).cell? ⟨b, off + j * 2 + 1, none⟩ = some (.int .i32 h) := ((hb.alloc hz _).cell (p := ⟨b, off + j * 2 + 1, none⟩) hbb).trans c3
            have hj0 : decide ((0 : Int) < (j : Int) + 1) = true := decide_eq_true (by omega)
            have hjn : j < n := by omega
            have hjn2 : (j : Int) < (n : Int) := by omega
            have hjw : IntKind.i64.wrap (j : Int) = (j : Int) := IntWalk.i64_in _ (by omega)
            rw [hh] at hgo
            simp only [touch, decide_eq_true_eq] at hgo
            by_cases ht : x ≤ h + 1
            · rw [if_pos ht] at hgo
              have HG := Lib.hid hgo
              have HX := Lib.hid hx
              have HPX := Lib.hid hp
              clear hgo hx c0 c1 c3 hpv hpv2 hprev hh hp
              have ht2 : decide (x - h < 2) = true := decide_eq_true (by omega)
              go_wp2_with fail
              go_quiet (fail)
              go_wp2_with fail
              go_ret
              rw [HP.out, HG.out]
              exact ⟨rfl, below_drewN (hb.alloc hz _) _⟩
            · rw [if_neg ht, ← hprev] at hgo
              have HG := Lib.hid hgo
              have HX := Lib.hid hx
              have HPX := Lib.hid hp
              have HPV := Lib.hid hpv2
              clear hgo hx c0 c1 c3 hpv hpv2 hprev hh hp
              have ht2 : decide (x - h < 2) = false := decide_eq_false (by omega)
              go_wp2_with fail
              go_quiet (fail)
              go_wp2_with fail
              exact ⟨⟨j + 1 + 1, by omega, by go_num, HG.out, HPV.out, below_drewN (hb.alloc hz _) _⟩, by simp [intOf]; omega⟩
      · obtain rfl : j = n := by omega
        rw [List.drop_of_length_le (by rw [HLEN.out]; omega)] at hgo
        have HG := Lib.hid (hgo.trans (show wrongGo (prevOf l j) [] = 0 from rfl))
        clear hgo hpv
        go_wp2_with fail
        go_ret
        rw [HP.out, HG.out]
        exact ⟨rfl, hb⟩

end Go.Proofs.YthnhbcohfoodlaaGreatDoor

/- scriptref2.Do: it tells opP. -/
namespace Go.Proofs.YthnhbcohfoodlaaGreatDoor
open Go.RowKit

set_option maxHeartbeats 1600000 in
theorem do1_call (g : Nat) (A : Option Addr) (n c : Nat) (a : Spans) (r : Int) (w : World) (hA : SetArg w A n c a) (b1 : Blk w g 22 #[.slice A n c]) :
    Calls Tryz.prog 135 (#[.int .i32 r] ++ #[.pointer (some ⟨g, 0, none⟩)]) w fun e w' => e = .returned (.bool (!hasP a r)) ∧ Below w.heap.size w w' := by
  have HH := Lib.hid (ref2_has A n c a r w (by have := hA.le; omega) hA.rd)
  have c1 := b1.cell 0
  clear hA b1
  generalize hasP a r = x at *
  go_enter Tryz.func135, Tryz.ntmps135
  go_wp2_with fail
  refine HH.out.mono ?_
  rintro e w1 ⟨rfl, hb⟩
  have HB := Lib.hid hb
  clear hb
  go_wp2_with fail
  go_ret
  exact ⟨rfl, HB.out⟩

set_option maxRecDepth 100000 in
set_option maxHeartbeats 1600000 in
theorem do2_call (op : Int) (hop : op = 124 ∨ op = 38 ∨ op = 45) (ga gb go : Nat) (A B : Option Addr) (n c m d : Nat) (a b : Spans) (r : Int) (w : World) (hA : SetArg w A n c a) (hB : SetArg w B m d b)
    (b1 : Blk w ga 22 #[.slice A n c]) (b2 : Blk w gb 22 #[.slice B m d]) (b3 : Blk w go 5 #[.int .u8 op]) :
    Calls Tryz.prog 137 (#[.int .i32 r] ++ #[.pointer (some ⟨ga, 0, none⟩), .pointer (some ⟨gb, 0, none⟩), .pointer (some ⟨go, 0, none⟩)]) w fun e w' => e = .returned (.bool (doHolds op a b r)) ∧ Below w.heap.size w w' := by
  have HH1 := Lib.hid (fun (W : World) (hb : Below w.heap.size w W) => ref2_has A n c a r W (by have := hA.le; omega) (hA.below hb).rd)
  have HH2 := Lib.hid (fun (W : World) (hb : Below w.heap.size w W) => ref2_has B m d b r W (by have := hB.le; omega) (hB.below hb).rd)
  have HC := Lib.hid (fun (W : World) (hb : Below w.heap.size w W) => show W.cell? ⟨ga, 0, none⟩ = some (.slice A n c) ∧ W.cell? ⟨gb, 0, none⟩ = some (.slice B m d) ∧ W.cell? ⟨go, 0, none⟩ = some (.int .u8 op) from ⟨(b1.below hb b1.lt).cell 0, (b2.below hb b2.lt).cell 0, (b3.below hb b3.lt).cell 0⟩)
  obtain ⟨c1, c2, _⟩ := HC.out w (Below.refl _ _)
  have HD := Lib.hid (show ∀ op, doHolds op a b r = ((decide (op = 124) && (hasP a r || hasP b r)) || ((decide (op = 38) && hasP a r && hasP b r) || (decide (op = 45) && hasP a r && !hasP b r))) from fun _ => rfl)
  obtain ⟨Z, hZ⟩ : ∃ Z, doHolds op a b r = Z := ⟨_, rfl⟩
  rw [hZ]
  have HOP := Lib.hid hop
  have HZ := Lib.hid ((HD.out op).symm.trans hZ)
  clear hA hB b1 b2 b3 hZ HD hop
  generalize hasP a r = x at *
  generalize hasP b r = y at *
  have HB0 := Lib.hid (below_drew1 (Below.refl w.heap.size w))
  go_enter Tryz.func137, Tryz.ntmps137
  go_upto_region 1 with fail
  refine wp_region_till (S := (fun w' => w'.cell? ⟨ga, 0, none⟩ = some (.slice A n c) ∧ w'.cell? ⟨gb, 0, none⟩ = some (.slice B m d))) [0, 3] (by kernel_rfl) ⟨c1, c2⟩ (fun hHeld => ?_)
  refine wpTill_take (i := 0) (oi := ⟨some 8, _, _, _, _, _⟩) (v := ?_) rfl (by kernel_rfl) (by kernel_rfl) (by kernel_rfl) (by kernel_rfl) (by kernel_rfl) (fun _ _ _ h => h) (Or.inl ⟨by rfl, ?_⟩) (by assumption) ?_
  rotate_left 1
  · intro wq hSw
    (try dsimp only at hSw)
    go_simp
    try with_reducible rfl
  try simp only [Act.put, List.setIfInBounds_toArray, List.set_cons_zero, List.set_cons_succ]
  refine wpTill_pure (i := 1) (oi := ⟨some 9, _, _, _, _, _⟩) (v := ?_) rfl (by kernel_rfl) (by kernel_rfl) (by kernel_rfl) (fun _ _ _ h => h) (Or.inl ⟨by rfl, ?_⟩) ?_
  rotate_left 1
  · intro wq _
    go_simp
    try with_reducible rfl
  try simp only [Act.put, List.setIfInBounds_toArray, List.set_cons_zero, List.set_cons_succ]
  refine wpTill_take (i := 3) (oi := ⟨some 11, _, _, _, _, _⟩) (v := ?_) rfl (by kernel_rfl) (by kernel_rfl) (by kernel_rfl) (by kernel_rfl) (by kernel_rfl) (fun _ _ _ h => h) (Or.inl ⟨by rfl, ?_⟩) (by assumption) ?_
  rotate_left 1
  · intro wq hSw
    (try dsimp only at hSw)
    go_simp
    try with_reducible rfl
  try simp only [Act.put, List.setIfInBounds_toArray, List.set_cons_zero, List.set_cons_succ]
  refine wpTill_pure (i := 4) (oi := ⟨some 12, _, _, _, _, _⟩) (v := ?_) rfl (by kernel_rfl) (by kernel_rfl) (by kernel_rfl) (fun _ _ _ h => h) (Or.inl ⟨by rfl, ?_⟩) ?_
  rotate_left 1
  · intro wq _
    go_simp
    try with_reducible rfl
  try simp only [Act.put, List.setIfInBounds_toArray, List.set_cons_zero, List.set_cons_succ]
  refine wpTill_one (i := 2) (o := ⟨some 10, _, _, _, _, _⟩) (by kernel_rfl) rfl (fun K hK => ?_)
  go_simp
  go_at_call 136
  refine (HH1.out _ HB0.out).mono ?_
  rintro e w7 ⟨rfl, hbq⟩
  have HB1 := Lib.hid (HB0.out.trans (hbq.mono HB0.out.size))
  clear hbq
  try dsimp only
  refine hK.out _ _ ?_ (fun hHeld => ?_)
  · exact ⟨(HC.out _ HB1.out).1, (HC.out _ HB1.out).2.1⟩
  clear hK K
  try simp only [Act.put, List.setIfInBounds_toArray, List.set_cons_zero, List.set_cons_succ]
  refine wpTill_late (i := 5) (o := ⟨some 13, _, _, _, _, _⟩) (by kernel_rfl) rfl (by kernel_rfl) (fun K hK => ?_)
  go_simp
  go_at_call 136
  refine (HH2.out _ HB1.out).mono ?_
  rintro e w8 ⟨rfl, hbq⟩
  have HB2 := Lib.hid (HB1.out.trans (hbq.mono HB1.out.size))
  clear hbq
  try dsimp only
  refine hK.out _ _ ?_
  clear hK K
  try simp only [Act.put, List.setIfInBounds_toArray, List.set_cons_zero, List.set_cons_succ]
  refine wpTill_pure (i := 6) (oi := ⟨some 6, _, _, _, _, _⟩) (v := ?_) rfl (by kernel_rfl) (by kernel_rfl) (by kernel_rfl) (fun _ _ _ h => h) (Or.inl ⟨by rfl, ?_⟩) ?_
  rotate_left 1
  · intro wq _
    go_simp
    try with_reducible rfl
  try simp only [Act.put, List.setIfInBounds_toArray, List.set_cons_zero, List.set_cons_succ]
  refine wpTill_pure (i := 7) (oi := ⟨some 7, _, _, _, _, _⟩) (v := ?_) rfl (by kernel_rfl) (by kernel_rfl) (by kernel_rfl) (fun _ _ _ h => h) (Or.inl ⟨by rfl, ?_⟩) ?_
  rotate_left 1
  · intro wq _
    go_simp
    try with_reducible rfl
  try simp only [Act.put, List.setIfInBounds_toArray, List.set_cons_zero, List.set_cons_succ]
  refine wpTill_done (by kernel_rfl) ?_ _
  go_simp
  have k3 := (HC.out _ HB2.out).2.2
  rcases HOP.out with rfl | rfl | rfl <;> cases x <;> cases y
  all_goals
    go_wp2_with fail
    go_ret
    exact ⟨ret_bool HZ.out, HB2.out⟩
-- END DO2

theorem edgesAll_len (L : List Spans) : (edgesAll L).length ≤ 1 + (L.flatMap edgesS).length := (foldPut_len (L.flatMap edgesS) [0]).2

set_option maxRecDepth 100000 in
set_option maxHeartbeats 3200000 in
theorem ref_do (op : Int) (hop : op = 124 ∨ op = 38 ∨ op = 45 ∨ op = 94) (A B : Option Addr) (n c m d : Nat) (a b : Spans) (w : World) (hA : SetArg w A n c a) (hB : SetArg w B m d b) :
    Calls Tryz.prog 82 #[.int .u8 op, .slice A n c, .slice B m d] w (SetTuple w (opP op a b)) := by
  have HB0 := Lib.hid (show Below w.heap.size w (((w.alloc (.cells #[.int .u8 op] 5)).alloc (.cells #[.slice A n c] 22)).alloc (.cells #[.slice B m d] 22)) from (((Below.refl _ _).alloc (Nat.le_refl _) _).alloc (by simp) _).alloc (by simp; omega) _)
  have HO0 := Lib.hid (show Blk (((w.alloc (.cells #[.int .u8 op] 5)).alloc (.cells #[.slice A n c] 22)).alloc (.cells #[.slice B m d] 22)) w.heap.size 5 #[.int .u8 op] from ((Blk.new w _ _).alloc _).alloc _)
  have HP0 := Lib.hid (show Blk (((w.alloc (.cells #[.int .u8 op] 5)).alloc (.cells #[.slice A n c] 22)).alloc (.cells #[.slice B m d] 22)) (w.heap.size + 1) 22 #[.slice A n c] by
    have := (Blk.new (w.alloc (.cells #[.int .u8 op] 5)) 22 #[.slice A n c]).alloc (.cells #[.slice B m d] 22)
    simpa using this)
  have HQ0 := Lib.hid (show Blk (((w.alloc (.cells #[.int .u8 op] 5)).alloc (.cells #[.slice A n c] 22)).alloc (.cells #[.slice B m d] 22)) (w.heap.size + 1 + 1) 22 #[.slice B m d] by
    have := Blk.new ((w.alloc (.cells #[.int .u8 op] 5)).alloc (.cells #[.slice A n c] 22)) 22 #[.slice B m d]
    simpa using this)
  have HA := Lib.hid hA
  have HB := Lib.hid hB
  have hmf : ∀ (fn : Fn) (first cap : Array Value) (w : World), (Instr.makeFunc fn first cap).run Tryz.prog w = .ok (.func fn first cap) w := fun _ _ _ _ => rfl
  have HW := Lib.hid (fun (W : World) (A : Option Addr) (n c : Nat) (a : Spans) (h : SetArg W A n c a) => show Calls Tryz.prog 132 #[.slice A n c] W fun e w' => e = .returned (.int .i64 0) ∧ Below W.heap.size W w' by have := ref2_wrong A n c a W (by have := h.le; omega) h.rd; rwa [wrong_of h.right] at this)
  clear hA hB
  go_enter Tryz.func82, Tryz.ntmps82
  have z1 := HP0.out.cell 0
  go_wp2_with fail
  refine (HW.out _ A n c a (HA.out.below HB0.out)).mono ?_
  rintro e w1 ⟨rfl, hb1⟩
  have HB1 := Lib.hid (HB0.out.trans (hb1.mono HB0.out.size))
  have HO1 := Lib.hid (HO0.out.below hb1 HO0.out.lt)
  have HP1 := Lib.hid (HP0.out.below hb1 HP0.out.lt)
  have HQ1 := Lib.hid (HQ0.out.below hb1 HQ0.out.lt)
  clear hb1 z1 HO0 HP0 HQ0 HB0
  have o1 := HO1.out.cell 0
  have p1 := HP1.out.cell 0
  have q1 := HQ1.out.cell 0
  have hFA := HA.out.below HB1.out
  by_cases h94 : op = 94
  · subst h94
    have HES := Lib.hid (ref_edges Any0 [a] (some ⟨w1.heap.size, 0, none⟩) 1 1 (w1.alloc (.cells #[.slice A n c] 22)) (by decide) (by simpa using hFA.right) (sets_one hFA))
    have HEQ := Lib.hid (show opP 94 a b = buildP (edgesAll [a]) (fun r => !hasP a r) by unfold opP; rw [if_neg (by rw [wrong_of hFA.right]; decide), if_pos rfl])
    have HEO := Lib.hid (show EdgesOk (edgesAll [a]) (fun r => !hasP a r) from edges_ok (by simpa using hFA.right) (fun x r h => by rw [h a (by simp)]))
    have HEL := Lib.hid (show (edgesAll [a]).length ≤ 100000 by have := edgesAll_len [a]; rw [List.flatMap_cons, List.flatMap_nil, List.append_nil, edgesS_len] at this; have := hFA.right.size; omega)
    have HB2 := Lib.hid (show Below w1.heap.size w1 (w1.alloc (.cells #[.slice A n c] 22)) from (Below.refl _ _).alloc (Nat.le_refl _) _)
    clear hFA
    go_wp2_with fail
    refine HES.out.mono ?_
    rintro e w2 ⟨⟨A', n', c', rfl, hr⟩, hb2⟩
    have HB3 := Lib.hid (HB2.out.trans (hb2.mono HB2.out.size))
    have HR3 := Lib.hid hr.of
    have HN := Lib.hid (show n' ≤ 100000 by have := hr.1; rw [runeCells_length] at this; have := HEL.out; omega)
    have HP3 := Lib.hid (HP1.out.below HB3.out HP1.out.lt)
    have HA3 := Lib.hid (HA.out.below (HB1.out.trans (HB3.out.mono HB1.out.size)))
    have HBU := Lib.hid (ref_build 135 #[.pointer (some ⟨w.heap.size + 1, 0, none⟩)] A' n' c' (edgesAll [a]) (fun r => !hasP a r) w2 (fun _ _ => by go_simp) HN.out HEO.out HR3.out
      (fun W r hb => do1_call (w.heap.size + 1) A n c a r W (HA3.out.below hb) (HP3.out.below hb HP3.out.lt)))
    have HBW := Lib.hid (HB1.out.trans (HB3.out.mono HB1.out.size))
    clear hr hb2 o1 p1 q1 HES
    go_wp2_with fail
    refine HBU.out.mono ?_
    rintro e w3 ⟨A4, n4, c4, rfl, h41, h42, h43, h44⟩
    have HX := Lib.hid (show SetTuple w (opP 94 a b) (.returned (.tuple #[.slice A4 n4 c4, .int .i64 (buildP (edgesAll [a]) (fun r => !hasP a r)).2])) w3 by
      rw [HEQ.out]
      exact ⟨A4, n4, c4, rfl, h41.lift (fun b hb => Nat.le_trans HBW.out.size hb), h42, h43, HBW.out.trans (h44.mono HBW.out.size)⟩)
    clear h41 h42 h43 h44
    generalize (buildP (edgesAll [a]) (fun r => !hasP a r)).2 = x at *
    go_wp2_with fail
    go_ret2
    exact HX.out
  · have h94b : (op == 94) = false := by rw [beq_eq_false_iff_ne]; exact h94
    have hop3 : op = 124 ∨ op = 38 ∨ op = 45 := by omega
    have HOP := Lib.hid hop3
    go_wp2_with fail
    refine (HW.out _ B m d b (HB.out.below HB1.out)).mono ?_
    rintro e w2 ⟨rfl, hb2⟩
    have HB2 := Lib.hid (HB1.out.trans (hb2.mono HB1.out.size))
    have HO2 := Lib.hid (HO1.out.below hb2 HO1.out.lt)
    have HP2 := Lib.hid (HP1.out.below hb2 HP1.out.lt)
    have HQ2 := Lib.hid (HQ1.out.below hb2 HQ1.out.lt)
    clear hb2 o1 p1 q1 HO1 HP1 HQ1 HB1 hFA hop3 hop
    have o1 := HO2.out.cell 0
    have p1 := HP2.out.cell 0
    have q1 := HQ2.out.cell 0
    have hFA := HA.out.below HB2.out
    have hFB := HB.out.below HB2.out
    have HES := Lib.hid (ref_edges Any0 [a, b] (some ⟨w2.heap.size, 0, none⟩) 2 2 (w2.alloc (.cells #[.slice A n c, .slice B m d] 22)) (by decide) (by simpa using ⟨hFA.right, hFB.right⟩) (sets_two hFA hFB))
    have HEQ := Lib.hid (show opP op a b = buildP (edgesAll [a, b]) (doHolds op a b) by unfold opP; rw [if_neg (by rw [wrong_of hFA.right]; decide), if_neg h94, if_neg (by rw [wrong_of hFB.right]; decide)])
    have HEO := Lib.hid (show EdgesOk (edgesAll [a, b]) (doHolds op a b) from edges_ok (by simpa using ⟨hFA.right, hFB.right⟩) (fun x r h => by unfold doHolds; rw [h a (by simp), h b (by simp)]))
    have HEL := Lib.hid (show (edgesAll [a, b]).length ≤ 100000 by
      have := edgesAll_len [a, b]
      rw [List.flatMap_cons, List.flatMap_cons, List.flatMap_nil, List.append_nil, List.length_append, edgesS_len, edgesS_len] at this
      have := hFA.right.size
      have := hFB.right.size
      omega)
    have HB3a := Lib.hid (show Below w2.heap.size w2 (w2.alloc (.cells #[.slice A n c, .slice B m d] 22)) from (Below.refl _ _).alloc (Nat.le_refl _) _)
    clear hFA hFB h94
    go_wp2_with fail
    refine HES.out.mono ?_
    rintro e w3 ⟨⟨A', n', c', rfl, hr⟩, hb3⟩
    have HB3 := Lib.hid (HB3a.out.trans (hb3.mono HB3a.out.size))
    have HR3 := Lib.hid hr.of
    have HN := Lib.hid (show n' ≤ 100000 by have := hr.1; rw [runeCells_length] at this; have := HEL.out; omega)
    have HO3 := Lib.hid (HO2.out.below HB3.out HO2.out.lt)
    have HP3 := Lib.hid (HP2.out.below HB3.out HP2.out.lt)
    have HQ3 := Lib.hid (HQ2.out.below HB3.out HQ2.out.lt)
    have HBW := Lib.hid (HB2.out.trans (HB3.out.mono HB2.out.size))
    have HA3 := Lib.hid (HA.out.below HBW.out)
    have HB33 := Lib.hid (HB.out.below HBW.out)
    have HBU := Lib.hid (ref_build 137 #[.pointer (some ⟨w.heap.size + 1, 0, none⟩), .pointer (some ⟨w.heap.size + 1 + 1, 0, none⟩), .pointer (some ⟨w.heap.size, 0, none⟩)] A' n' c' (edgesAll [a, b]) (doHolds op a b) w3 (fun _ _ => by go_simp) HN.out HEO.out HR3.out
      (fun W r hb => do2_call op HOP.out (w.heap.size + 1) (w.heap.size + 1 + 1) w.heap.size A B n c m d a b r W (HA3.out.below hb) (HB33.out.below hb) (HP3.out.below hb HP3.out.lt) (HQ3.out.below hb HQ3.out.lt) (HO3.out.below hb HO3.out.lt)))
    clear hr hb3 o1 p1 q1 HES
    go_wp2_with fail
    refine HBU.out.mono ?_
    rintro e w4 ⟨A4, n4, c4, rfl, h41, h42, h43, h44⟩
    have HX := Lib.hid (show SetTuple w (opP op a b) (.returned (.tuple #[.slice A4 n4 c4, .int .i64 (buildP (edgesAll [a, b]) (doHolds op a b)).2])) w4 by
      rw [HEQ.out]
      exact ⟨A4, n4, c4, rfl, h41.lift (fun b hb => Nat.le_trans HBW.out.size hb), h42, h43, HBW.out.trans (h44.mono HBW.out.size)⟩)
    clear h41 h42 h43 h44
    generalize (buildP (edgesAll [a, b]) (doHolds op a b)).2 = x at *
    go_wp2_with fail
    go_ret2
    exact HX.out

end Go.Proofs.YthnhbcohfoodlaaGreatDoor

/- Where the document's reading of a set stands; its operator. -/
namespace Go.Proofs.YthnhbcohfoodlaaGreatDoor
open Go.RowKit

/-- The walk's runes do not lie in a block that holds one value that is no number. -/
theorem WkAt.apart {w : World} {C G : Nat} {A : Option Addr} {n c : Nat} {L : List Int} {i e p : Int} {t : TypeId} {v : Value} (h : WkAt w C A n c L i e p) (hG : Blk w G t #[v]) (hv : ∀ x, v ≠ .int .i32 x) : RdX w (fun b => b ≠ C ∧ b ≠ G) 1 A n (runeCells L) := by
  refine ⟨h.row.1, fun hn => ?_⟩
  obtain ⟨b, off, e, hb, hl, hc⟩ := h.row.2 hn
  refine ⟨b, off, e, ⟨hb, fun he => ?_⟩, hl, hc⟩
  subst he
  have hlen := h.len
  obtain ⟨x, hx⟩ : ∃ x, L[0]? = some x := ⟨_, List.getElem?_eq_getElem (by omega)⟩
  have h1 := hc 0 (.int .i32 x) (by rw [runeCells_at, hx]; rfl)
  rw [hG.cell] at h1
  rcases off with _ | off
  · simp at h1
    exact hv x h1
  · simp at h1
theorem WkAt.set {w : World} {C G : Nat} {A : Option Addr} {n c : Nat} {L : List Int} {i e p : Int} {t : TypeId} {v : Value} (h : WkAt w C A n c L i e p) (hG : Blk w G t #[v]) (hv : ∀ x, v ≠ .int .i32 x) (hne : C ≠ G) (u : Value) : WkAt (w.setCell ⟨G, 0, none⟩ u) C A n c L i e p := by
  have hk : But w G (w.setCell ⟨G, 0, none⟩ u) := But.set _ _ _ _
  obtain ⟨t, hb⟩ := h.blk
  exact ⟨⟨t, (hk.2.2.2.2 C hb.lt hne).trans hb⟩, (h.apart hG hv).keep (hk.keeps (fun b h => h.2) (fun b h _ => h.1)), h.size, h.cap⟩

/-- A set is being read: the walk at i, its first fault; block P points to it, block G holds what is read so far, s, which lies in new memory. -/
structure RfFr (w : World) (C P G : Nat) (A : Option Addr) (n c : Nat) (L : List Int) (i e p : Int) (s : Spans) (wr : World) : Prop where
  wk : WkAt wr C A n c L i e p
  box : Blk wr P 70 #[.pointer (some ⟨C, 0, none⟩)]
  set : ∃ B m d, Blk wr G 22 #[.slice B m d] ∧ RdX wr (fun b => b ≠ C ∧ b ≠ P ∧ b ≠ G ∧ w.heap.size ≤ b) 2 B m (spanCells s) ∧ m ≤ d
  right : RightSet s
  but : But w C wr
  lo : C < w.heap.size ∧ w.heap.size ≤ P ∧ w.heap.size ≤ G ∧ P ≠ G
section
variable {w wr w' : World} {C P G : Nat} {A : Option Addr} {n c : Nat} {L : List Int} {i e p : Int} {s : Spans}
theorem RfFr.keepB (h : RfFr w C P G A n c L i e p s wr) (hb : But wr C w') {i' e' p' : Int} (hc : WkAt w' C A n c L i' e' p') : RfFr w C P G A n c L i' e' p' s w' := by
  obtain ⟨B, m, d, h1, h2, h3⟩ := h.set
  obtain ⟨l1, l2, l3, l4⟩ := h.lo
  exact ⟨hc, (hb.2.2.2.2 P h.box.lt (by omega)).trans h.box, ⟨B, m, d, (hb.2.2.2.2 G h1.lt (by omega)).trans h1, h2.keep (hb.keeps (fun b h => h.1) (fun b h _ => h)), h3⟩, h.right, h.but.trans hb, h.lo⟩
theorem RfFr.below (h : RfFr w C P G A n c L i e p s wr) (hb : Below wr.heap.size wr w') : RfFr w C P G A n c L i e p s w' := h.keepB (But.below C hb) (h.wk.keep hb)
/-- What is made is put there. -/
theorem RfFr.put (h : RfFr w C P G A n c L i e p s wr) {t : Spans} {B : Option Addr} {m d : Nat} (hr : RdX wr (fun b => b ≠ C ∧ b ≠ P ∧ b ≠ G ∧ w.heap.size ≤ b) 2 B m (spanCells t)) (hd : m ≤ d) (ht : RightSet t) :
    RfFr w C P G A n c L i e p t (wr.setCell ⟨G, 0, none⟩ (.slice B m d)) := by
  obtain ⟨B0, m0, d0, h1, h2, h3⟩ := h.set
  obtain ⟨l1, l2, l3, l4⟩ := h.lo
  have hk : But wr G (wr.setCell ⟨G, 0, none⟩ (.slice B m d)) := But.set _ _ _ _
  refine ⟨h.wk.set h1 (fun x e => by cases e) (by omega) _, (hk.2.2.2.2 P h.box.lt l4).trans h.box, ⟨B, m, d, h1.put 0 _, hr.keep (hk.keeps (fun b h => h.2.2.1) (fun b h _ => h)), hd⟩, ht, ?_, h.lo⟩
  exact ⟨Nat.le_trans h.but.1 hk.1, hk.2.1.trans h.but.2.1, hk.2.2.1.trans h.but.2.2.1, hk.2.2.2.1.trans h.but.2.2.2.1, fun b hb hne => (hk.2.2.2.2 b (Nat.lt_of_lt_of_le hb h.but.1) (by omega)).trans (h.but.2.2.2.2 b hb hne)⟩
theorem RfFr.p0 (h : RfFr w C P G A n c L i e p s wr) : wr.cell? ⟨P, 0, none⟩ = some (.pointer (some ⟨C, 0, none⟩)) := h.box.cell 0
theorem RfFr.now (h : RfFr w C P G A n c L i e p s wr) : ∃ B m d, wr.cell? ⟨G, 0, none⟩ = some (.slice B m d) ∧ wr.frozen? ⟨G, 0, none⟩ = false ∧ SetArg wr B m d s := by
  obtain ⟨B, m, d, h1, h2, h3⟩ := h.set
  exact ⟨B, m, d, h1.cell 0, h1.frozen 0, h.right, h2.of, h3⟩
end

set_option maxHeartbeats 3200000 in
/-- The operator: what is read so far, and a set; a fault is kept, but the first one stays. -/
theorem do_good (op : Int) (hop : op = 124 ∨ op = 38 ∨ op = 45 ∨ op = 94) (w wr : World) (C P G : Nat) (A B : Option Addr) (n c m d : Nat) (L : List Int) (i p : Int) (s t : Spans) (h : RfFr w C P G A n c L i 0 p s wr) (ht : SetArg wr B m d t) :
    Calls Tryz.prog 81 (#[.int .u8 op, .slice B m d] ++ #[.pointer (some ⟨G, 0, none⟩), .pointer (some ⟨P, 0, none⟩)]) wr fun e w' => e = .returned (.tuple #[]) ∧
      (((opP op s t).2 = 0 ∧ RfFr w C P G A n c L i 0 p (opP op s t).1 w') ∨ ((opP op s t).2 ≠ 0 ∧ RfFr w C P G A n c L i (opP op s t).2 i (opP op s t).1 w')) := by
  obtain ⟨B0, m0, d0, c0, _, ha⟩ := h.now
  have HDO := Lib.hid (ref_do op hop B0 B m0 d0 m d s t wr ha ht)
  have HF := Lib.hid h
  have HR := Lib.hid (op_right op h.right ht.right)
  obtain ⟨u, x, ho⟩ : ∃ u x, opP op s t = (u, x) := ⟨_, _, rfl⟩
  rw [ho] at HDO HR ⊢
  simp only at HDO HR ⊢
  clear h ht ha ho
  go_enter Tryz.func81, Tryz.ntmps81
  go_wp2_with fail
  refine HDO.out.mono ?_
  rintro e w1 ⟨B1, m1, d1, rfl, hr1, _, hd1, hb1⟩
  have HF1 := Lib.hid (HF.out.below hb1)
  have HR1 := Lib.hid (hr1.lift (X' := fun b => b ≠ C ∧ b ≠ P ∧ b ≠ G ∧ w.heap.size ≤ b) (fun b hb => by
    obtain ⟨l1, l2, l3, l4⟩ := HF.out.lo
    obtain ⟨_, _, _, hg, _⟩ := HF.out.set
    have h1 := hg.lt
    have h2 := HF.out.box.lt
    have h3 := HF.out.but.1
    exact ⟨by omega, by omega, by omega, by omega⟩))
  clear hr1 hb1
  by_cases hx : x = 0
  · subst hx
    have HP := Lib.hid (HF1.out.put HR1.out hd1 HR.out)
    obtain ⟨_, _, _, g1, f1, _⟩ := HF1.out.now
    go_wp2_with fail
    go_end0
    exact ⟨rfl, HP.out⟩
  · have hx2 : (x != 0) = true := by simp; exact hx
    have HST := Lib.hid (fun (W : World) (h : WkAt W C A n c L i 0 p) => wk_stop W C A n c L i p x i h)
    have p0 := HF1.out.p0
    have k1 := HF1.out.wk.c1
    have HX := Lib.hid hx
    clear hx
    go_upto_region 2 with fail
    refine wp_region_till (S := (fun w' => w'.cell? ⟨P, 0, none⟩ = some (.pointer (some ⟨C, 0, none⟩)) ∧ w'.cell? ⟨C, 1, none⟩ = some (.int .i64 i))) [0, 2, 5] (by kernel_rfl) ⟨p0, k1⟩ (fun hHeld => ?_)
    refine wpTill_take (i := 0) (oi := ⟨some 17, _, _, _, _, _⟩) (v := ?_) rfl (by kernel_rfl) (by kernel_rfl) (by kernel_rfl) (by kernel_rfl) (by kernel_rfl) (fun _ _ _ h => h) (Or.inl ⟨by rfl, ?_⟩) (by assumption) ?_
    rotate_left 1
    · intro wq hSw
      (try dsimp only at hSw)
      go_simp
      try with_reducible rfl
    try simp only [Act.put, List.setIfInBounds_toArray, List.set_cons_zero, List.set_cons_succ]
    refine wpTill_pure (i := 1) (oi := ⟨some 18, _, _, _, _, _⟩) (v := ?_) rfl (by kernel_rfl) (by kernel_rfl) (by kernel_rfl) (fun _ _ _ h => h) (Or.inl ⟨by rfl, ?_⟩) ?_
    rotate_left 1
    · intro wq _
      go_simp
      try with_reducible rfl
    try simp only [Act.put, List.setIfInBounds_toArray, List.set_cons_zero, List.set_cons_succ]
    refine wpTill_take (i := 2) (oi := ⟨some 19, _, _, _, _, _⟩) (v := ?_) rfl (by kernel_rfl) (by kernel_rfl) (by kernel_rfl) (by kernel_rfl) (by kernel_rfl) (fun _ _ _ h => h) (Or.inl ⟨by rfl, ?_⟩) (by assumption) ?_
    rotate_left 1
    · intro wq hSw
      (try dsimp only at hSw)
      go_simp
      try with_reducible rfl
    try simp only [Act.put, List.setIfInBounds_toArray, List.set_cons_zero, List.set_cons_succ]
    refine wpTill_pure (i := 3) (oi := ⟨some 20, _, _, _, _, _⟩) (v := ?_) rfl (by kernel_rfl) (by kernel_rfl) (by kernel_rfl) (fun _ _ _ h => h) (Or.inl ⟨by rfl, ?_⟩) ?_
    rotate_left 1
    · intro wq _
      go_simp
      try with_reducible rfl
    try simp only [Act.put, List.setIfInBounds_toArray, List.set_cons_zero, List.set_cons_succ]
    refine wpTill_pure (i := 4) (oi := ⟨some 21, _, _, _, _, _⟩) (v := ?_) rfl (by kernel_rfl) (by kernel_rfl) (by kernel_rfl) (fun _ _ _ h => h) (Or.inl ⟨by rfl, ?_⟩) ?_
    rotate_left 1
    · intro wq _
      go_simp
      try with_reducible rfl
    try simp only [Act.put, List.setIfInBounds_toArray, List.set_cons_zero, List.set_cons_succ]
    refine wpTill_take (i := 5) (oi := ⟨some 22, _, _, _, _, _⟩) (v := ?_) rfl (by kernel_rfl) (by kernel_rfl) (by kernel_rfl) (by kernel_rfl) (by kernel_rfl) (fun _ _ _ h => h) (Or.inl ⟨by rfl, ?_⟩) (by assumption) ?_
    rotate_left 1
    · intro wq hSw
      (try dsimp only at hSw)
      go_simp
      try with_reducible rfl
    try simp only [Act.put, List.setIfInBounds_toArray, List.set_cons_zero, List.set_cons_succ]
    refine wpTill_late (i := 6) (o := ⟨some 23, _, _, _, _, _⟩) (by kernel_rfl) rfl (by kernel_rfl) (fun K hK => ?_)
    go_simp
    go_at_call 44
    refine (HST.out _ (HF1.out.wk.drewN 1)).mono ?_
    rintro e w2 ⟨rfl, hc2, hb2⟩
    have hdb := (But.drewN w1 C 1).trans hb2
    have HF2 := Lib.hid (HF1.out.keepB hdb hc2)
    have HR2 := Lib.hid (HR1.out.keep (hdb.keeps (fun b h => h.1) (fun b h _ => h)))
    clear hc2 hb2 hdb
    have HP := Lib.hid (HF2.out.put HR2.out hd1 HR.out)
    obtain ⟨_, _, _, g1, f1, _⟩ := HF2.out.now
    try dsimp only
    refine hK.out _ _ ?_
    clear hK K
    refine wpTill_done (by kernel_rfl) ?_ _
    go_simp
    go_wp2_with fail
    go_end0
    exact ⟨rfl, .inr ⟨HX.out, HP.out⟩⟩
set_option maxHeartbeats 3200000 in
theorem do_bad (op : Int) (hop : op = 124 ∨ op = 38 ∨ op = 45 ∨ op = 94) (w wr : World) (C P G : Nat) (A B : Option Addr) (n c m d : Nat) (L : List Int) (i e p : Int) (he : e ≠ 0) (s t : Spans) (h : RfFr w C P G A n c L i e p s wr) (ht : SetArg wr B m d t) :
    Calls Tryz.prog 81 (#[.int .u8 op, .slice B m d] ++ #[.pointer (some ⟨G, 0, none⟩), .pointer (some ⟨P, 0, none⟩)]) wr fun en w' => en = .returned (.tuple #[]) ∧ RfFr w C P G A n c L i e p (opP op s t).1 w' := by
  obtain ⟨B0, m0, d0, c0, _, ha⟩ := h.now
  have HDO := Lib.hid (ref_do op hop B0 B m0 d0 m d s t wr ha ht)
  have HF := Lib.hid h
  have HR := Lib.hid (op_right op h.right ht.right)
  have HE := Lib.hid he
  obtain ⟨u, x, ho⟩ : ∃ u x, opP op s t = (u, x) := ⟨_, _, rfl⟩
  rw [ho] at HDO HR ⊢
  simp only at HDO HR ⊢
  clear h ht ha he ho
  go_enter Tryz.func81, Tryz.ntmps81
  go_wp2_with fail
  refine HDO.out.mono ?_
  rintro en w1 ⟨B1, m1, d1, rfl, hr1, _, hd1, hb1⟩
  have HF1 := Lib.hid (HF.out.below hb1)
  have HR1 := Lib.hid (hr1.lift (X' := fun b => b ≠ C ∧ b ≠ P ∧ b ≠ G ∧ w.heap.size ≤ b) (fun b hb => by
    obtain ⟨l1, l2, l3, l4⟩ := HF.out.lo
    obtain ⟨_, _, _, hg, _⟩ := HF.out.set
    have h1 := hg.lt
    have h2 := HF.out.box.lt
    have h3 := HF.out.but.1
    exact ⟨by omega, by omega, by omega, by omega⟩))
  clear hr1 hb1
  by_cases hx : x = 0
  · subst hx
    have HP := Lib.hid (HF1.out.put HR1.out hd1 HR.out)
    obtain ⟨_, _, _, g1, f1, _⟩ := HF1.out.now
    go_wp2_with fail
    go_end0
    exact ⟨rfl, HP.out⟩
  · have hx2 : (x != 0) = true := by simp; exact hx
    have HST := Lib.hid (fun (W : World) (h : WkAt W C A n c L i e p) => wk_stop_bad W C A n c L i e p x i h HE.out)
    have p0 := HF1.out.p0
    have k1 := HF1.out.wk.c1
    clear hx
    go_upto_region 2 with fail
    refine wp_region_till (S := (fun w' => w'.cell? ⟨P, 0, none⟩ = some (.pointer (some ⟨C, 0, none⟩)) ∧ w'.cell? ⟨C, 1, none⟩ = some (.int .i64 i))) [0, 2, 5] (by kernel_rfl) ⟨p0, k1⟩ (fun hHeld => ?_)
    refine wpTill_take (i := 0) (oi := ⟨some 17, _, _, _, _, _⟩) (v := ?_) rfl (by kernel_rfl) (by kernel_rfl) (by kernel_rfl) (by kernel_rfl) (by kernel_rfl) (fun _ _ _ h => h) (Or.inl ⟨by rfl, ?_⟩) (by assumption) ?_
    rotate_left 1
    · intro wq hSw
      (try dsimp only at hSw)
      go_simp
      try with_reducible rfl
    try simp only [Act.put, List.setIfInBounds_toArray, List.set_cons_zero, List.set_cons_succ]
    refine wpTill_pure (i := 1) (oi := ⟨some 18, _, _, _, _, _⟩) (v := ?_) rfl (by kernel_rfl) (by kernel_rfl) (by kernel_rfl) (fun _ _ _ h => h) (Or.inl ⟨by rfl, ?_⟩) ?_
    rotate_left 1
    · intro wq _
      go_simp
      try with_reducible rfl
    try simp only [Act.put, List.setIfInBounds_toArray, List.set_cons_zero, List.set_cons_succ]
    refine wpTill_take (i := 2) (oi := ⟨some 19, _, _, _, _, _⟩) (v := ?_) rfl (by kernel_rfl) (by kernel_rfl) (by kernel_rfl) (by kernel_rfl) (by kernel_rfl) (fun _ _ _ h => h) (Or.inl ⟨by rfl, ?_⟩) (by assumption) ?_
    rotate_left 1
    · intro wq hSw
      (try dsimp only at hSw)
      go_simp
      try with_reducible rfl
    try simp only [Act.put, List.setIfInBounds_toArray, List.set_cons_zero, List.set_cons_succ]
    refine wpTill_pure (i := 3) (oi := ⟨some 20, _, _, _, _, _⟩) (v := ?_) rfl (by kernel_rfl) (by kernel_rfl) (by kernel_rfl) (fun _ _ _ h => h) (Or.inl ⟨by rfl, ?_⟩) ?_
    rotate_left 1
    · intro wq _
      go_simp
      try with_reducible rfl
    try simp only [Act.put, List.setIfInBounds_toArray, List.set_cons_zero, List.set_cons_succ]
    refine wpTill_pure (i := 4) (oi := ⟨some 21, _, _, _, _, _⟩) (v := ?_) rfl (by kernel_rfl) (by kernel_rfl) (by kernel_rfl) (fun _ _ _ h => h) (Or.inl ⟨by rfl, ?_⟩) ?_
    rotate_left 1
    · intro wq _
      go_simp
      try with_reducible rfl
    try simp only [Act.put, List.setIfInBounds_toArray, List.set_cons_zero, List.set_cons_succ]
    refine wpTill_take (i := 5) (oi := ⟨some 22, _, _, _, _, _⟩) (v := ?_) rfl (by kernel_rfl) (by kernel_rfl) (by kernel_rfl) (by kernel_rfl) (by kernel_rfl) (fun _ _ _ h => h) (Or.inl ⟨by rfl, ?_⟩) (by assumption) ?_
    rotate_left 1
    · intro wq hSw
      (try dsimp only at hSw)
      go_simp
      try with_reducible rfl
    try simp only [Act.put, List.setIfInBounds_toArray, List.set_cons_zero, List.set_cons_succ]
    refine wpTill_late (i := 6) (o := ⟨some 23, _, _, _, _, _⟩) (by kernel_rfl) rfl (by kernel_rfl) (fun K hK => ?_)
    go_simp
    go_at_call 44
    refine (HST.out _ (HF1.out.wk.drewN 1)).mono ?_
    rintro en w2 ⟨rfl, hw2⟩
    have HF2 := Lib.hid (HF1.out.below (below_drewN (Below.refl _ _) 1))
    have HR2 := Lib.hid (HR1.out.keep (Keeps.any (below_drewN (Below.refl _ _) 1)))
    have HP := Lib.hid (HF2.out.put HR2.out hd1 HR.out)
    obtain ⟨_, _, _, g1, f1, _⟩ := HF2.out.now
    rw [← hw2] at HP g1 f1
    clear hw2
    try dsimp only
    refine hK.out _ _ ?_
    clear hK K
    refine wpTill_done (by kernel_rfl) ?_ _
    go_simp
    go_wp2_with fail
    go_end0
    exact ⟨rfl, HP.out⟩

end Go.Proofs.YthnhbcohfoodlaaGreatDoor

/- The document's reading of a set, round by round: what stands behind a part and its operator. -/
namespace Go.Proofs.YthnhbcohfoodlaaGreatDoor
open Go.RowKit

/-- What is read so far, and what is still to come; or the first fault. -/
def RsLp (w : World) (C P G : Nat) (A : Option Addr) (n c : Nat) (L : List Int) (p : Int) (inner : Nat → Rdg Spans) (Rp : Rdg Spans) (wr : World) : Prop :=
  ∃ (i e q : Int) (s : Spans), RfFr w C P G A n c L i e q s wr ∧
    ((e = 0 ∧ q = p ∧ ∃ f j : Nat, i = (j : Int) ∧ j ≤ n ∧ n + 1 ≤ f + j ∧ Rp = partsP inner L f j s) ∨ (e ≠ 0 ∧ ∃ y : Nat, q = (y : Int) ∧ Rp = .error (e, y)))
def RsM (C n : Nat) (wr : World) : Nat := match wr.cell? ⟨C, 2, none⟩ with | some (.int _ e) => (if e = 0 then n + 1 - (match wr.cell? ⟨C, 1, none⟩ with | some (.int _ j) => j.toNat | _ => 0) else 0) | _ => 0
theorem RsM.good {wr : World} {C : Nat} {A : Option Addr} {n c : Nat} {L : List Int} {j : Nat} {p : Int} (h : WkAt wr C A n c L (j : Int) 0 p) : RsM C n wr = n + 1 - j := by
  unfold RsM
  rw [h.c2, h.c1]
  simp
theorem RsM.bad {wr : World} {C : Nat} {A : Option Addr} {n c : Nat} {L : List Int} {i e q : Int} (h : WkAt wr C A n c L i e q) (he : e ≠ 0) : RsM C n wr = 0 := by
  unfold RsM
  rw [h.c2]
  simp [he]
/-- A part's reading, and where the walk stands behind it. -/
def PtAt (n j : Nat) (p : Int) (r : Rdg Spans) (t : Spans) (i e q : Int) : Prop :=
  match r with
  | .ok (t', j2) => t = t' ∧ e = 0 ∧ q = p ∧ i = (j2 : Int) ∧ j < j2 ∧ j2 ≤ n
  | .error (x, y) => x ≠ 0 ∧ e = x ∧ q = (y : Int)
theorem rs_bad {w wr : World} {C P G : Nat} {A : Option Addr} {n c : Nat} {L : List Int} {p : Int} {inner : Nat → Rdg Spans} {Rp : Rdg Spans} {i e : Int} {y f j : Nat} {s s' : Spans} (h : RfFr w C P G A n c L i e y s' wr) (he : e ≠ 0) (hr : Rp = partsP inner L (f + 1) j s) (h93 : pk L (skipP L j) ≠ 93) (hres : partP' inner L (skipP L j) = .error (e, y)) (hj : j ≤ n) :
    RsLp w C P G A n c L p inner Rp wr ∧ RsM C n wr < n + 1 - j :=
  ⟨⟨i, e, y, s', h, .inr ⟨he, y, rfl, hr.trans (partsP_err h93 hres)⟩⟩, by rw [RsM.bad h.wk he]; omega⟩
theorem do_part (op : Int) (hop : op = 124 ∨ op = 38 ∨ op = 45) {w wr : World} {C P G : Nat} {A B : Option Addr} {n c m d : Nat} {L : List Int} {p : Int} {inner : Nat → Rdg Spans} {Rp rres : Rdg Spans} {i e q : Int} {f j : Nat} {s t : Spans}
    (h : RfFr w C P G A n c L i e q s wr) (ht : SetArg wr B m d t) (ho : opOf (pk L (skipP L j)) = op) (hr : Rp = partsP inner L (f + 1) j s) (h93 : pk L (skipP L j) ≠ 93) (hres : partP' inner L (skipP L j) = rres)
    (hp : PtAt n j p rres t i e q) (hf : n + 1 ≤ f + 1 + j) (hj : j ≤ n) :
    Calls Tryz.prog 81 (#[.int .u8 op, .slice B m d] ++ #[.pointer (some ⟨G, 0, none⟩), .pointer (some ⟨P, 0, none⟩)]) wr fun en w' => en = .returned (.tuple #[]) ∧ RsLp w C P G A n c L p inner Rp w' ∧ RsM C n w' < n + 1 - j := by
  have hop4 : op = 124 ∨ op = 38 ∨ op = 45 ∨ op = 94 := by omega
  cases rres with
  | error x =>
    obtain ⟨x, y⟩ := x
    obtain ⟨hx, rfl, rfl⟩ := hp
    refine (do_bad op hop4 w wr C P G A B n c m d L i e y hx s t h ht).mono ?_
    rintro en w' ⟨rfl, h2⟩
    exact ⟨rfl, rs_bad h2 hx hr h93 hres hj⟩
  | ok x =>
    obtain ⟨t', j2⟩ := x
    obtain ⟨rfl, rfl, rfl, rfl, hlt, hle⟩ := hp
    have hst := hr.trans (partsP_step h93 hres)
    rw [ho] at hst
    refine (do_good op hop4 w wr C P G A B n c m d L j2 q s t h ht).mono ?_
    rintro en w' ⟨rfl, ⟨h0, h2⟩ | ⟨h0, h2⟩⟩
    · rw [if_neg (fun h => h h0)] at hst
      exact ⟨rfl, ⟨_, _, _, _, h2, .inl ⟨rfl, rfl, f, j2, rfl, hle, by omega, hst⟩⟩, by rw [RsM.good h2.wk]; omega⟩
    · rw [if_pos h0] at hst
      exact ⟨rfl, ⟨_, _, _, _, h2, .inr ⟨h0, j2, rfl, hst⟩⟩, by rw [RsM.bad h2.wk h0]; omega⟩

/-- What Set leaves: the set and the place behind it; or some set, and the first fault. -/
def RsPost (w : World) (C : Nat) (A : Option Addr) (n c : Nat) (L : List Int) (p : Int) (r : Rdg Spans) (e : Ending) (w' : World) : Prop :=
  (∃ B m d s, e = .returned (.slice B m d) ∧ RdX w' (fun b => w.heap.size ≤ b) 2 B m (spanCells s) ∧ m ≤ d ∧ RightSet s ∧
    (match r with
    | .ok (t, j) => s = t ∧ j ≤ n ∧ WkAt w' C A n c L (j : Nat) 0 p
    | .error (x, q) => x ≠ 0 ∧ ∃ i, WkAt w' C A n c L i x q)) ∧ But w C w'
/-- A set that was read within: an operator's argument, and where the walk stands. -/
theorem RfFr.inner {w wr w1 : World} {C P G : Nat} {A : Option Addr} {n c : Nat} {L : List Int} {k j : Nat} {p i : Int} {s : Spans} {r : Rdg Spans} {en : Ending} (h : RfFr w C P G A n c L i 0 p s wr) (hp : RsPost wr C A n c L p r en w1) (hlt : ∀ t j2, r = .ok (t, j2) → k < j2) (hj : j ≤ k) :
    ∃ B m d t i' e q, en = .returned (.slice B m d) ∧ RfFr w C P G A n c L i' e q s w1 ∧ SetArg w1 B m d t ∧ PtAt n j p r t i' e q := by
  obtain ⟨⟨B, m, d, t, rfl, hr, hd, ht, hm⟩, hb⟩ := hp
  cases r with
  | error x =>
    obtain ⟨x, y⟩ := x
    obtain ⟨hx, i', hw⟩ := hm
    exact ⟨B, m, d, t, i', x, y, rfl, h.keepB hb hw, ⟨ht, hr.of, hd⟩, hx, rfl, rfl⟩
  | ok x =>
    obtain ⟨t', j2⟩ := x
    obtain ⟨rfl, hle, hw⟩ := hm
    exact ⟨B, m, d, t, _, _, _, rfl, h.keepB hb hw, ⟨ht, hr.of, hd⟩, rfl, rfl, rfl, rfl, by have := hlt t j2 rfl; omega, hle⟩

end Go.Proofs.YthnhbcohfoodlaaGreatDoor
