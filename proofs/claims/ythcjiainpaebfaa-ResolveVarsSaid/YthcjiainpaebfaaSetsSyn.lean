/- The sets of a pattern: the walk of (resolve.vars).sets: setsP. -/
import Derived.Test.YthcjiainpaebfaaEnv
namespace Go.Proofs.Ythcjiainpaebfaa
open Go.RowKit Go.Maps

theorem set_small {l : Spans} (h : wrongP l = 0) : l.length ≤ 200 := by
  unfold wrongP at h
  by_cases h2 : 200 < l.length
  · rw [if_pos h2] at h; cases h
  · omega

set_option maxRecDepth 100000 in
set_option maxHeartbeats 3200000 in
theorem syn_sets (mb nm : Nat) (LP : List PartD) (A2 : Option Addr) (n2 c2 : Nat) (L : List ItemD) (w : World) (B : Nat) (hB : B ≤ w.heap.size) (hE : EnvM w (· < B) mb nm LP) (hok2 : ∀ s set, lookP LP s = some set → set.length ≤ 200) (hL : RdIt w B A2 n2 L) (hok : itemsP L = 0) :
    Calls Try.prog 35 #[.map (some mb), .slice A2 n2 c2] w fun e w' => StPost w' B w.heap.size (setsP LP L) e ∧ Below w.heap.size w w' := by
  obtain ⟨i0, hi, hz0, hz1, hz2⟩ := info_parts infoSets
  obtain ⟨h20, hall⟩ := items_ok hok
  have hn20 : n2 ≤ 20 := by rw [← RdL.len hL]; exact h20
  have hmb := hE.lt
  have HLEN := Lib.hid (RdL.len hL)
  have HL := Lib.hid hL
  have HA := Lib.hid hall
  have HE := Lib.hid hE
  have HOK := Lib.hid hok2
  clear hL hok h20 hall hE hok2
  go_enter Try.func35, Try.ntmps35
  go_wp2_with fail
  go_loopw [6, 13] (SrRel w B LP L n2) (fun _ i _ => n2 - (intOf i).toNat)
  case atStart => exact ⟨0, [], Nat.zero_le _, rfl, rfl, StAt.nil w B⟩
  case round =>
    obtain ⟨k, ll, hk, rfl, hgo, hst⟩ := hrel
    have hll := setsP_len hgo
    have hll2 : ll.length ≤ k := by rw [hll]; exact List.length_take_le _ _
    clear hll
    have hz := hst.2.size
    by_cases hlt : k < n2
    · obtain ⟨a, ha⟩ : ∃ z, L[k]? = some z := ⟨_, List.getElem?_eq_getElem (by rw [HLEN.out]; exact hlt)⟩
      have hka := item_kinds (HA.out a (List.mem_of_getElem? ha))
      obtain ⟨b, off, A', n', c', rfl, hbb, f0, f1, f2, f3, hset, hn', _, hnm⟩ := item_at HL.out ha
      have hbw : b < w.heap.size := by omega
      have d0 := (hst.2.cell (p := ⟨b, off + k * 4, none⟩) hbw).trans f0
      have d1 := (hst.2.cell (p := ⟨b, off + k * 4 + 1, none⟩) hbw).trans f1
      have d2 := (hst.2.cell (p := ⟨b, off + k * 4 + 2, none⟩) hbw).trans f2
      have d3 := (hst.2.cell (p := ⟨b, off + k * 4 + 3, none⟩) hbw).trans f3
      clear f0 f1 f2 f3
      have HSET := Lib.hid hset
      have HS1 := Lib.hid (StAt.alloc hst (.cells #[.int .i64 a.kind, .int .i32 a.rune, .slice A' n' c', .string a.name] 43))
      have HK1 := Lib.hid (Blk.new wr 43 #[.int .i64 a.kind, .int .i32 a.rune, .slice A' n' c', .string a.name])
      have HGO := Lib.hid hgo
      have HA1 := Lib.hid ha
      clear hset hn' hgo hst
      rcases hka with ⟨hk1, hk2⟩ | ⟨hk1, hk2⟩ | ⟨hk1, hk2⟩
      · have HSP := Lib.hid (show setP LP a = some [(a.rune, a.rune)] by unfold setP; rw [if_pos hk1])
        have q1 : (a.kind == 1) = true := by rw [hk1]; rfl
        clear hk1 hk2
        have hsx := StAt.alloc HS1.out (.cells #[.int .i32 a.rune, .int .i32 a.rune] 69)
        have hux := RdX.new (w := wr.alloc (.cells #[.int .i64 a.kind, .int .i32 a.rune, .slice A' n' c', .string a.name] 43)) (X := FrN B w.heap.size u6) (n := 1) (sz := 2) 69 [.int .i32 a.rune, .int .i32 a.rune] rfl (by
          obtain ⟨⟨css, g1, g2, g3, g4⟩, g5⟩ := HS1.out
          exact ⟨.inr g5.size, own_free g4 (.inr (Nat.le_refl _))⟩)
        rw [show (wr.alloc (.cells #[.int .i64 a.kind, .int .i32 a.rune, .slice A' n' c', .string a.name] 43)).heap.size = wr.heap.size + 1 by simp] at hux
        have HU := Lib.hid (show SetV ((wr.alloc (.cells #[.int .i64 a.kind, .int .i32 a.rune, .slice A' n' c', .string a.name] 43)).alloc (.cells #[.int .i32 a.rune, .int .i32 a.rune] 69)) (FrN B w.heap.size u6) [(a.rune, a.rune)] (.slice (some ⟨wr.heap.size + 1, 0, none⟩) 1 1) from ⟨_, _, _, rfl, hux, by decide⟩)
        have HSX := Lib.hid hsx
        clear hsx hux
        obtain ⟨⟨css, g1, g2, g3, g4⟩, g5⟩ := HSX.out
        have hN := Rd.new ((wr.alloc (.cells #[.int .i64 a.kind, .int .i32 a.rune, .slice A' n' c', .string a.name] 43)).alloc (.cells #[.int .i32 a.rune, .int .i32 a.rune] 69)) 23 1 1 [.slice (some ⟨wr.heap.size + 1, 0, none⟩) 1 1] rfl
        rw [show ((wr.alloc (.cells #[.int .i64 a.kind, .int .i32 a.rune, .slice A' n' c', .string a.name] 43)).alloc (.cells #[.int .i32 a.rune, .int .i32 a.rune] 69)).heap.size = wr.heap.size + 1 + 1 by simp] at hN
        have HN := Lib.hid hN
        have HO := Lib.hid (World.ownsRow.alloc g4 (.cells #[.slice (some ⟨wr.heap.size + 1, 0, none⟩) 1 1] 23))
        have HZ := Lib.hid ((g5.alloc g5.size (.cells #[.slice (some ⟨wr.heap.size + 1, 0, none⟩) 1 1] 23)).size)
        have G1 := Lib.hid g1
        have G2 := Lib.hid g2
        have G3 := Lib.hid g3
        have G4 := Lib.hid g4
        have G5 := Lib.hid g5
        clear g1 g2 g3 g4 g5 hN
        go_wp2_with (at_builtin; refine wpList_append_rd _ rfl (.tmp 35) (.tmp 42) 56 rfl w.heap.size 23 i0 _ 1 24 Try.underlying56 hi hz0 hz1 hz2 rfl (by decide) _ _ _ rfl HO.out _ (some ⟨wr.heap.size + 1 + 1, 0, none⟩) 1 1 [.slice (some ⟨wr.heap.size + 1, 0, none⟩) 1 1] rfl HN.out ?one1 (by simp only [maxLen]; omega) (by omega) HZ.out ?_)
        case one1 => intro x hx; simp at hx; subst hx; rfl
        intro v9 w9 happ
        have HST := Lib.hid (StAt.push G1.out G2.out G3.out G4.out G5.out HU.out happ)
        clear happ
        go_wp2_with fail
        exact ⟨⟨k + 1, ll ++ [_], by omega, by go_num, setsP_step HA1.out HGO.out HSP.out, HST.out⟩, by simp [intOf]; omega⟩
      · have HSP := Lib.hid (show setP LP a = some a.set by unfold setP; rw [hk1, if_neg (by decide), if_pos rfl])
        have q1 : (a.kind == 1) = false := by rw [hk1]; rfl
        have q2 : (a.kind == 2) = true := by rw [hk1]; rfl
        have h200 := set_small hk2
        have hlen := RdS.len HSET.out
        have hn2 : n' ≤ 1000 := by omega
        clear hk1 hk2 hlen h200
        go_wp2_with fail
        refine (clone_set A' n' c' B a.set _ (Rd.below HSET.out (HS1.out.2.mono hB)) hn2).mono ?_
        rintro e wx ⟨⟨u, rfl, hu⟩, hb⟩
        have HSX := Lib.hid (StAt.below HS1.out hb)
        have hu2 := hu
        obtain ⟨A7, n7, c7, rfl, _⟩ := hu2
        have HU := Lib.hid (show SetV wx (FrN B w.heap.size u6) a.set (.slice A7 n7 c7) from SetV.keep (Keeps.refl (fun b hb => by
          have g := HS1.out
          obtain ⟨⟨css, g1, g2, g3, g4⟩, g5⟩ := g
          exact ⟨.inr (Nat.le_trans g5.size hb), own_free g4 (.inr hb)⟩)) hu)
        clear hu hb
        obtain ⟨⟨css, g1, g2, g3, g4⟩, g5⟩ := HSX.out
        have HN := Lib.hid (Rd.new wx 23 1 1 [(.slice A7 n7 c7)] rfl)
        have HO := Lib.hid (World.ownsRow.alloc g4 (.cells #[(.slice A7 n7 c7)] 23))
        have HZ := Lib.hid (Nat.le_trans g5.size (show wx.heap.size ≤ (wx.alloc (.cells #[(.slice A7 n7 c7)] 23)).heap.size by simp))
        have G1 := Lib.hid g1
        have G2 := Lib.hid g2
        have G3 := Lib.hid g3
        have G4 := Lib.hid g4
        have G5 := Lib.hid g5
        clear g1 g2 g3 g4 g5
        go_wp2_with (at_builtin; refine wpList_append_rd _ rfl (.tmp 46) (.tmp 50) 56 rfl w.heap.size 23 i0 _ 1 24 Try.underlying56 hi hz0 hz1 hz2 rfl (by decide) _ _ _ rfl HO.out _ (some ⟨wx.heap.size, 0, none⟩) 1 1 [(.slice A7 n7 c7)] rfl HN.out ?one2 (by simp only [maxLen]; omega) (by omega) HZ.out ?_)
        case one2 => intro x hx; simp at hx; subst hx; rfl
        intro v9 w9 happ
        have HST := Lib.hid (StAt.push G1.out G2.out G3.out G4.out G5.out HU.out happ)
        clear happ
        go_wp2_with fail
        exact ⟨⟨k + 1, ll ++ [_], by omega, by go_num, setsP_step HA1.out HGO.out HSP.out, HST.out⟩, by simp [intOf]; omega⟩
      · have hsp : setP LP a = lookP LP a.name := by unfold setP; rw [hk1, if_neg (by decide), if_neg (by decide)]
        have q1 : (a.kind == 1) = false := by rw [hk1]; rfl
        have q2 : (a.kind == 2) = false := by rw [hk1]; rfl
        clear hk1 hk2
        have he1 := EnvM.keep (X' := (· < B)) (Keeps.below HS1.out.2 (fun _ h _ => h)) (HS1.out.2.block mb hmb) HE.out
        obtain ⟨D, hD, _, hat⟩ := he1
        have hat := hat a.name
        have HD := Lib.hid hD
        clear hD
        cases hlk : lookP LP a.name with
        | none =>
          rw [hlk] at hat
          have HSP := Lib.hid (hsp.trans hlk)
          have HT1 := Lib.hid hat.1
          have HT2 := Lib.hid hat.2
          clear hsp hlk hat
          go_wp2_with (at_lookup; refine wpList_env rfl (.tmp 20) (.tmp 22) rfl mb nm D rfl HD.out a.name rfl hnm (.slice none 0 0) false HT1.out HT2.out ?_)
          go_ret2
          rw [setsP_none HA1.out HSP.out]
          exact ⟨rfl, HS1.out.2⟩
        | some s =>
          rw [hlk] at hat
          obtain ⟨u, h1, h2, h3⟩ := hat
          obtain ⟨A6, n6, c6, rfl, hrd, _⟩ := h3
          have HSP := Lib.hid (hsp.trans hlk)
          have HT1 := Lib.hid h1
          have HT2 := Lib.hid h2
          have h200 := HOK.out a.name s hlk
          have hrd2 : Rd (wr.alloc (.cells #[.int .i64 a.kind, .int .i32 a.rune, .slice A' n' c', .string a.name] 43)) B 2 A6 n6 (spanCells s) := RdX.rd hrd (fun _ h _ => h)
          have hlen := RdS.len hrd2
          have hn2 : n6 ≤ 1000 := by omega
          have HRD := Lib.hid hrd2
          clear hsp hlk h1 h2 hrd h200 hrd2 hlen
          go_wp2_with (at_lookup; refine wpList_env rfl (.tmp 20) (.tmp 22) rfl mb nm D rfl HD.out a.name rfl hnm (.slice A6 n6 c6) true HT1.out HT2.out ?_)
          refine (clone_set A6 n6 c6 B s _ HRD.out hn2).mono ?_
          rintro e wx ⟨⟨u, rfl, hu⟩, hb⟩
          have HSX := Lib.hid (StAt.below HS1.out hb)
          have hu2 := hu
          obtain ⟨A7, n7, c7, rfl, _⟩ := hu2
          have HU := Lib.hid (show SetV wx (FrN B w.heap.size u6) s (.slice A7 n7 c7) from SetV.keep (Keeps.refl (fun b hb => by
            have g := HS1.out
            obtain ⟨⟨css, g1, g2, g3, g4⟩, g5⟩ := g
            exact ⟨.inr (Nat.le_trans g5.size hb), own_free g4 (.inr hb)⟩)) hu)
          clear hu hb
          obtain ⟨⟨css, g1, g2, g3, g4⟩, g5⟩ := HSX.out
          have HN := Lib.hid (Rd.new wx 23 1 1 [(.slice A7 n7 c7)] rfl)
          have HO := Lib.hid (World.ownsRow.alloc g4 (.cells #[(.slice A7 n7 c7)] 23))
          have HZ := Lib.hid (Nat.le_trans g5.size (show wx.heap.size ≤ (wx.alloc (.cells #[(.slice A7 n7 c7)] 23)).heap.size by simp))
          have G1 := Lib.hid g1
          have G2 := Lib.hid g2
          have G3 := Lib.hid g3
          have G4 := Lib.hid g4
          have G5 := Lib.hid g5
          clear g1 g2 g3 g4 g5
          go_wp2_with (at_builtin; refine wpList_append_rd _ rfl (.tmp 28) (.tmp 31) 56 rfl w.heap.size 23 i0 _ 1 24 Try.underlying56 hi hz0 hz1 hz2 rfl (by decide) _ _ _ rfl HO.out _ (some ⟨wx.heap.size, 0, none⟩) 1 1 [(.slice A7 n7 c7)] rfl HN.out ?one3 (by simp only [maxLen]; omega) (by omega) HZ.out ?_)
          case one3 => intro x hx; simp at hx; subst hx; rfl
          intro v9 w9 happ
          have HST := Lib.hid (StAt.push G1.out G2.out G3.out G4.out G5.out HU.out happ)
          clear happ
          go_wp2_with fail
          exact ⟨⟨k + 1, ll ++ [_], by omega, by go_num, setsP_step HA1.out HGO.out HSP.out, HST.out⟩, by simp [intOf]; omega⟩
    · obtain rfl : k = n2 := by omega
      rw [List.take_of_length_le (by rw [HLEN.out]; omega)] at hgo
      have HG := Lib.hid hgo
      have HS := Lib.hid hst
      clear hgo hst
      obtain ⟨AO, cO, rfl, _⟩ := HS.out.1.form
      go_wp2_with fail
      go_ret2
      rw [HG.out]
      exact ⟨⟨_, rfl, StAt.post HS.out (by unfold maxLen; omega)⟩, HS.out.2⟩

end Go.Proofs.Ythcjiainpaebfaa
