/- What is wrong with a side: the walk of rulesyn.side: sideP, as the document's answer. -/
import Derived.Test.YthcjiainpaebfaaSide
namespace Go.Proofs.Ythcjiainpaebfaa
open Go.RowKit

def SdRel (W : World) (s : SideD) (i : Value) (wr : World) : Prop :=
  ∃ j : Nat, j ≤ 3 ∧ i = .int .i64 j ∧ itemsAll [s.before, s.source, s.after] = itemsAll ([s.before, s.source, s.after].drop j) ∧ Below W.heap.size W wr

theorem all_cons (l : List ItemD) (r : List (List ItemD)) : itemsAll (l :: r) = if itemsP l = 0 then itemsAll r else itemsP l := rfl

theorem side_pick (s : SideD) (W : World) (A1 A2 A3 : Option Addr) (n1 n2 n3 c1 c2 c3 : Nat) (h1 : RdIt W W.heap.size A1 n1 s.before) (h2 : RdIt W W.heap.size A2 n2 s.source) (h3 : RdIt W W.heap.size A3 n3 s.after) (m1 : n1 ≤ maxLen) (m2 : n2 ≤ maxLen) (m3 : n3 ≤ maxLen) (j : Nat) (hj : j < 3) :
    ∃ (A : Option Addr) (n c : Nat) (l : List ItemD), (#[.slice A1 n1 c1, .slice A2 n2 c2, .slice A3 n3 c3] : Array Value)[j]? = some (.slice A n c) ∧ RdIt W W.heap.size A n l ∧ n ≤ maxLen ∧ [s.before, s.source, s.after].drop j = l :: [s.before, s.source, s.after].drop (j + 1) := by
  match j, hj with
  | 0, _ => exact ⟨A1, n1, c1, s.before, rfl, h1, m1, rfl⟩
  | 1, _ => exact ⟨A2, n2, c2, s.source, rfl, h2, m2, rfl⟩
  | 2, _ => exact ⟨A3, n3, c3, s.after, rfl, h3, m3, rfl⟩

set_option maxRecDepth 100000 in
set_option maxHeartbeats 3200000 in
theorem rulesyn_side (s : SideD) (must : Bool) (A1 A2 A3 : Option Addr) (n1 n2 n3 c1 c2 c3 : Nat) (w : World) (h1 : RdIt w w.heap.size A1 n1 s.before) (h2 : RdIt w w.heap.size A2 n2 s.source) (h3 : RdIt w w.heap.size A3 n3 s.after) (m1 : n1 ≤ maxLen) (m2 : n2 ≤ maxLen) (m3 : n3 ≤ maxLen) :
    Calls Try.prog 46 #[.agg #[.bool s.start, .bool s.fin, .slice A1 n1 c1, .slice A2 n2 c2, .slice A3 n3 c3, .int .i64 s.cursor], .bool must] w fun e w' => e = .returned (.int .i64 (sideP s must)) ∧ Below w.heap.size w w' := by
  have hl2 := RdL.len h2
  generalize hcs : (#[.bool s.start, .bool s.fin, .slice A1 n1 c1, .slice A2 n2 c2, .slice A3 n3 c3, .int .i64 s.cursor] : Array Value) = cs
  have hb1 : Below w.heap.size w (w.alloc (.cells cs 38)) := (Below.refl _ _).alloc (Nat.le_refl _) _
  have hb2 : Below w.heap.size w ((w.alloc (.cells cs 38)).alloc (.cells #[.slice A1 n1 c1, .slice A2 n2 c2, .slice A3 n3 c3] 36)) := hb1.alloc hb1.size _
  have hk1 : Blk ((w.alloc (.cells cs 38)).alloc (.cells #[.slice A1 n1 c1, .slice A2 n2 c2, .slice A3 n3 c3] 36)) w.heap.size 38 cs := (Blk.new _ _ _).alloc _
  have hk2 : Blk ((w.alloc (.cells cs 38)).alloc (.cells #[.slice A1 n1 c1, .slice A2 n2 c2, .slice A3 n3 c3] 36)) (w.heap.size + 1) 36 #[.slice A1 n1 c1, .slice A2 n2 c2, .slice A3 n3 c3] := by
    have := Blk.new (w.alloc (.cells cs 38)) 36 #[.slice A1 n1 c1, .slice A2 n2 c2, .slice A3 n3 c3]
    simpa using this
  have HPK := Lib.hid (side_pick s _ A1 A2 A3 n1 n2 n3 c1 c2 c3 (rdit_below h1 hb2) (rdit_below h2 hb2) (rdit_below h3 hb2) m1 m2 m3)
  have hm2 : n2 ≤ 9223372036854775807 := by unfold maxLen at m2; omega
  have HB := Lib.hid hb2
  have HK1 := Lib.hid hk1
  have HK2 := Lib.hid hk2
  clear h1 h2 h3 m1 m2 m3 hb1 hb2 hk1 hk2
  subst hcs
  go_enter Try.func46, Try.ntmps46
  go_wp2_with fail
  generalize hW : ((w.alloc (.cells #[.bool s.start, .bool s.fin, .slice A1 n1 c1, .slice A2 n2 c2, .slice A3 n3 c3, .int .i64 s.cursor] 38)).alloc (.cells #[.slice A1 n1 c1, .slice A2 n2 c2, .slice A3 n3 c3] 36)) = W at *
  clear hW
  go_loopw [18] (SdRel W s) (fun i _ => 3 - (intOf i).toNat)
  case atStart => exact ⟨0, by omega, rfl, rfl, Below.refl _ _⟩
  case round =>
    obtain ⟨j, hj, rfl, hall, hb⟩ := hrel
    have hz := hb.size
    by_cases hj3 : j < 3
    · obtain ⟨A, n, c, l, hc, hl, hm, hd⟩ := HPK.out j hj3
      rw [hd, all_cons l] at hall
      have dj : wr.cell? ⟨w.heap.size + 1, j, none⟩ = some (.slice A n c) := by
        rw [(Blk.below HK2.out hb HK2.out.lt).cell j]
        exact hc
      have ht : decide ((j : Int) < 3) = true := decide_eq_true (by omega)
      have HLEN := Lib.hid (RdL.len hl)
      have HL := Lib.hid hl
      have hn : n ≤ 9223372036854775807 := by unfold maxLen at hm; omega
      clear hl hc hd hm
      by_cases h20 : 20 < n
      · have hl5 : itemsP l = 5 := by unfold itemsP; rw [if_pos (by rw [HLEN.out]; exact h20)]
        rw [if_neg (by rw [hl5]; decide), hl5] at hall
        have HV := Lib.hid (show sideP s must = 5 by unfold sideP; rw [hall]; rfl)
        clear hall hl5
        go_wp2_with fail
        go_ret
        rw [HV.out]
        exact ⟨rfl, HB.out.trans (hb.mono HB.out.size)⟩
      · have hlg : itemsP l = itemsGo l := by unfold itemsP; rw [if_neg (by rw [HLEN.out]; exact h20)]
        rw [hlg] at hall
        have HA := Lib.hid hall
        clear hall hlg
        go_wp2_with fail
        go_loopw [27] (ItRel W l n) (fun i _ => n - (intOf i).toNat)
        case atStart => exact ⟨0, Nat.zero_le _, rfl, rfl, hb⟩
        case round =>
          clear hb hz
          obtain ⟨k, hk, rfl, hgo, hb⟩ := hrel
          have hz := hb.size
          by_cases hlt : k < n
          · obtain ⟨a, ha⟩ : ∃ z, l[k]? = some z := ⟨_, List.getElem?_eq_getElem (by rw [HLEN.out]; exact hlt)⟩
            rw [drop_at ha, itemsGo] at hgo
            obtain ⟨b, off, A', n', c', rfl, hbb, d0, d1, d2, d3, hset, hn', _, hnm⟩ := item_at HL.out ha
            have d0 := (hb.cell (p := ⟨b, off + k * 4, none⟩) hbb).trans d0
            have d1 := (hb.cell (p := ⟨b, off + k * 4 + 1, none⟩) hbb).trans d1
            have d2 := (hb.cell (p := ⟨b, off + k * 4 + 2, none⟩) hbb).trans d2
            have d3 := (hb.cell (p := ⟨b, off + k * 4 + 3, none⟩) hbb).trans d3
            have hb1 := fun o => hb.alloc hz o
            have HI := Lib.hid (fun o => rulesyn_item a A' n' c' (World.alloc _ o) (by unfold maxLen at hn'; omega) (Rd.more (Rd.below hset (hb1 o)) (by simp; omega)))
            have HB1 := Lib.hid hb1
            clear hset hb1 hnm hn'
            unfold itemV at HI
            by_cases hi : itemP a = 0
            · rw [if_pos hi] at hgo
              have HG := Lib.hid hgo
              clear hgo
              go_wp2_with fail
              refine (HI.out _).mono ?_
              rintro e w2 ⟨rfl, hb2⟩
              rw [hi]
              have hb3 := (HB1.out _).trans (hb2.mono (by simp; omega))
              have HB3 := Lib.hid hb3
              clear hb2 hb3
              go_wp2_with fail
              exact ⟨⟨k + 1, by omega, by go_num, HG.out, HB3.out⟩, by simp [intOf]; omega⟩
            · rw [if_neg hi] at hgo
              have hi2 : (itemP a != 0) = true := by simpa using hi
              have hA2 := HA.out
              rw [hgo, if_neg hi] at hA2
              have HV := Lib.hid (show sideP s must = itemP a by unfold sideP; rw [hA2, if_neg hi])
              clear hgo hi hA2
              go_wp2_with fail
              refine (HI.out _).mono ?_
              rintro e w2 ⟨rfl, hb2⟩
              have hb3 := (HB1.out _).trans (hb2.mono (by simp; omega))
              have HB3 := Lib.hid hb3
              clear hb2 hb3
              go_wp2_with fail
              go_ret
              rw [HV.out]
              exact ⟨rfl, HB.out.trans (HB3.out.mono HB.out.size)⟩
          · obtain rfl : k = n := by omega
            rw [List.drop_of_length_le (by rw [HLEN.out]; omega)] at hgo
            have hA2 := HA.out
            rw [hgo, if_pos (show itemsGo [] = 0 from rfl)] at hA2
            have HG := Lib.hid hA2
            clear hgo hA2
            go_wp2_with fail
            exact ⟨⟨j + 1, by omega, by go_num, HG.out, hb⟩, by simp [intOf]; omega⟩
    · obtain rfl : j = 3 := by omega
      have ha0 : itemsAll [s.before, s.source, s.after] = 0 := hall
      have hbx := Blk.below HK1.out hb HK1.out.lt
      have d3 : wr.cell? ⟨w.heap.size, 3, none⟩ = some (.slice A2 n2 c2) := hbx.cell 3
      have d5 : wr.cell? ⟨w.heap.size, 5, none⟩ = some (.int .i64 s.cursor) := hbx.cell 5
      have hb0 := HB.out.trans (hb.mono HB.out.size)
      have HS := Lib.hid (show sideP s must = if s.cursor < -1 ∨ (n2 : Int) < s.cursor then 3 else if must = true ∧ n2 = 0 then 6 else 0 by unfold sideP; rw [if_pos ha0, hl2])
      clear hall ha0 hbx hl2
      have HB0 := Lib.hid hb0
      clear hb0
      by_cases hc : s.cursor < -1 ∨ (n2 : Int) < s.cursor
      · have HV := Lib.hid (show sideP s must = 3 by rw [HS.out, if_pos hc])
        rcases (show s.cursor < -1 ∨ (-1 ≤ s.cursor ∧ (n2 : Int) < s.cursor) by omega) with h | ⟨h, h'⟩
        all_goals
          clear hc
          go_wp2_with fail
          go_ret
          rw [HV.out]
          exact ⟨rfl, HB0.out⟩
      · have hc1 : -1 ≤ s.cursor := by omega
        have hc2 : s.cursor ≤ n2 := by omega
        cases hmust : must
        · have HV := Lib.hid (show sideP s false = 0 by rw [← hmust, HS.out, if_neg hc, hmust]; simp)
          subst hmust
          clear hc
          go_wp2_with fail
          go_ret
          rw [HV.out]
          exact ⟨rfl, HB0.out⟩
        · subst hmust
          by_cases h0 : n2 = 0
          · have HV := Lib.hid (show sideP s true = 6 by rw [HS.out, if_neg hc, h0]; simp)
            have hz2 : ((n2 : Int) == 0) = true := by simp; omega
            clear hc
            go_wp2_with fail
            go_ret
            rw [HV.out]
            exact ⟨rfl, HB0.out⟩
          · have HV := Lib.hid (show sideP s true = 0 by rw [HS.out, if_neg hc]; simp [h0])
            have hz2 : ((n2 : Int) == 0) = false := by simp; omega
            clear hc
            go_wp2_with fail
            go_ret
            rw [HV.out]
            exact ⟨rfl, HB0.out⟩

end Go.Proofs.Ythcjiainpaebfaa
