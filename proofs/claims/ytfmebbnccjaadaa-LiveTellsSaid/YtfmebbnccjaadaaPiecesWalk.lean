/- The walk of scriptref13.Pieces: it tells piecesP. -/
import Derived.Test.YtfmebbnccjaadaaPieces
namespace Go.Proofs.Ytfmebbnccjaadaa
open Go.RowKit

theorem infoRunesE : (Try.prog.info? 23).map (fun i => (i.zero, i.size, i.bytes)) = some (some (.slice none 0 0), 1, 24) := by kernel_rfl
theorem infoBoolE : (Try.prog.info? 4).map (fun i => (i.zero, i.size, i.bytes)) = some (some (.bool false), 1, 1) := by kernel_rfl
def PieRel (w : World) (s : ScriptD) (t : List Int) (cs : Array Value) (nt : Nat) (v6 v7 i : Value) (wr : World) : Prop :=
  ∃ (k m : Nat) (us : List Value), k ≤ nt ∧ i = .int .i64 k ∧ m ≤ k ∧ PcSt w.heap.size v6 v7 ((t.take k).foldl (pushP s) []) m us wr ∧ (∀ p ∈ (t.take k).foldl (pushP s) [], p.1.length ≤ k) ∧ Blk wr w.heap.size 51 cs ∧ Below w.heap.size w wr
theorem len_snoc {a : List Pc} {p : Pc} {k : Nat} (h : ∀ q ∈ a, q.1.length ≤ k) (hp : p.1.length ≤ k + 1) : ∀ q ∈ a ++ [p], q.1.length ≤ k + 1 := by
  intro q hq
  rcases List.mem_append.1 hq with hq | hq
  · have := h q hq; omega
  · simp at hq; subst hq; exact hp
theorem bools_one (acc : List Pc) : ∀ u ∈ (acc.map fun p => Value.bool p.2), u.oneCell' = true := by
  intro u hu
  obtain ⟨p, _, rfl⟩ := List.mem_map.1 hu
  rfl

set_option maxRecDepth 100000 in
set_option maxHeartbeats 6400000 in
theorem ref13_pieces (X : Nat → Prop) (s : ScriptD) (t : List Int) (A1 A2 At : Option Addr) (n1 c1 n2 c2 nt ct : Nat) (w : World) (hs : ScriptAt w X s A1 n1 A2 n2) (hnt : nt ≤ 4000) (ht : RdR w w.heap.size At nt t) :
    Calls Try.prog 56 #[.agg #[.bool s.only?, .slice A1 n1 c1, .slice A2 n2 c2], .slice At nt ct] w fun e w' => (∃ v6 v7 m us, e = .returned (.tuple #[v6, v7]) ∧ PcSt w.heap.size v6 v7 (piecesP s t) m us w' ∧ m ≤ nt ∧ ∀ p ∈ piecesP s t, p.1.length ≤ nt) ∧ Below w.heap.size w w' := by
  obtain ⟨i0, hi, z0, z1, z2⟩ := info_parts Try.info21
  obtain ⟨i1, hi1, y0, y1, y2⟩ := info_parts infoRunesE
  obtain ⟨i2, hi2, x0, x1, x2⟩ := info_parts infoBoolE
  have htl := ht.len
  have hm1 := hs.m1
  have HSA := Lib.hid (fun (W : World) (hb : Below w.heap.size w W) => show ScriptAt W X s A1 n1 A2 n2 from hs.keep (Keeps.any hb))
  have HTW := Lib.hid ht
  simp only [maxLen] at hm1
  generalize hcs : (#[.bool s.only?, .slice A1 n1 c1, .slice A2 n2 c2] : Array Value) = cs
  have HCS := Lib.hid (show cs[0]? = some (.bool s.only?) ∧ cs[1]? = some (.slice A1 n1 c1) by subst hcs; exact ⟨rfl, rfl⟩)
  have HK0 := Lib.hid (Blk.new w 51 cs)
  have HB0 := Lib.hid ((Below.refl w.heap.size w).alloc (Nat.le_refl _) (.cells cs 51))
  clear hs ht hcs
  go_enter Try.func56, Try.ntmps56
  go_wp2_with fail
  go_loopw [6, 7, 14] (PieRel w s t cs nt) (fun _ _ i _ => nt - (intOf i).toNat)
  case atStart => exact ⟨0, 0, [], Nat.zero_le _, rfl, Nat.le_refl _, ⟨World.ownsRow_nil _ _ _ _, World.ownsRow_nil _ _ _ _, rfl, by simp, by simp, by simp⟩, by simp, HK0.out, HB0.out⟩
  case round =>
    obtain ⟨k, m, us, hk, rfl, hmk, hst, hpl, hkb, hb⟩ := hrel
    have hz := hb.size
    obtain ⟨A6, c6, rfl, _⟩ := own_form hst.o6
    obtain ⟨A7, c7, rfl, _⟩ := own_form hst.o7
    by_cases hlt : k < nt
    · obtain ⟨x, hx⟩ : ∃ z, t[k]? = some z := ⟨_, List.getElem?_eq_getElem (by omega)⟩
      obtain ⟨b, off, rfl, hbb, c0⟩ := HTW.out.at hlt
      rw [show t.getD k 0 = x by simp [List.getD, hx]] at c0
      have dx := (hb.cell (p := ⟨b, off + k, none⟩) hbb).trans c0
      have HPS := Lib.hid (pieces_succ (s := s) hx)
      have s0 : wr.cell? ⟨w.heap.size, 0, none⟩ = some (.bool s.only?) := (hkb.cell 0).trans HCS.out.1
      have s1 : wr.cell? ⟨w.heap.size, 1, none⟩ = some (.slice A1 n1 c1) := (hkb.cell 1).trans HCS.out.2
      generalize (t.take k).foldl (pushP s) [] = acc at *
      have HST := Lib.hid hst
      have HPL := Lib.hid hpl
      have HK := Lib.hid hkb
      have HB := Lib.hid hb
      clear hx c0 hst hpl hkb hb
      cases ho : s.only?
      · have HMN := Lib.hid (show meant s x = true by unfold meant; rw [ho]; rfl)
        rw [ho] at s0
        clear ho
        go_upto_region 7 with fail
        rcases List.eq_nil_or_concat acc with rfl | ⟨a, ⟨pc, bl⟩, rfl⟩
        · have HM0 := Lib.hid (show m = 0 by have := HST.out.len; simp at this; omega)
          have hd0 : decide ((0 : Int) ≤ (m : Int) - 1) = false := decide_eq_false (by have := HM0.out; omega)
          have hd1 : decide ((1 : Int) ≤ (m : Int)) = false := decide_eq_false (by have := HM0.out; omega)
          have hzW := HB.out.size
          have hl1 := (Below.refl wr.heap.size wr).alloc (Nat.le_refl _) (.cells #[.int .i32 x] 21)
          have hl2 := hl1.alloc (by simp) (.cells #[.slice (some ⟨wr.heap.size, 0, none⟩) 1 1] 23)
          have HS1 := Lib.hid (HST.out.go hl2)
          have HK1 := Lib.hid (Blk.below HK.out hl2 HK.out.lt)
          have HB1 := Lib.hid (HB.out.trans (hl2.mono hzW))
          have HN1 := Lib.hid (show Rd ((wr.alloc (.cells #[.int .i32 x] 21)).alloc (.cells #[.slice (some ⟨wr.heap.size, 0, none⟩) 1 1] 23)) (wr.heap.size + 1 + 1) 1 (some ⟨wr.heap.size + 1, 0, none⟩) 1 [.slice (some ⟨wr.heap.size, 0, none⟩) 1 1] by
            have := Rd.new (wr.alloc (.cells #[.int .i32 x] 21)) 23 1 1 [.slice (some ⟨wr.heap.size, 0, none⟩) 1 1] rfl
            simpa using this)
          have H1C := Lib.hid (show ∀ u ∈ [Value.slice (some ⟨wr.heap.size, 0, none⟩) 1 1], u.oneCell' = true by intro u hu; simp at hu; subst hu; rfl)
          clear hl1 hl2
          go_wp2_with (at_builtin; refine wpList_append_rd _ rfl (.tmp 51) (.tmp 54) 59 rfl w.heap.size 23 i1 _ 1 24 Try.underlying59 hi1 y0 y1 y2 rfl (by decide) _ m _ rfl HS1.out.o6 _ (some ⟨wr.heap.size + 1, 0, none⟩) 1 1 [.slice (some ⟨wr.heap.size, 0, none⟩) 1 1] rfl HN1.out H1C.out (by simp only [maxLen]; omega) (by omega) HB1.out.size ?_)
          intro v6' w2 happ
          have hbp := happ.below HB1.out.size HS1.out.o6
          have ho7 := own_kept_other HS1.out.o7 HS1.out.o6 (by decide) happ
          have hl3 := (Below.refl w2.heap.size w2).alloc (Nat.le_refl _) (.cells #[.bool true] 4)
          have HAP := Lib.hid happ
          have HK2 := Lib.hid (Blk.below (blk_app HK1.out HS1.out.o6 (by decide) happ) hl3 (Nat.lt_of_lt_of_le HK1.out.lt (happ.2.1.size)))
          have HB2 := Lib.hid (HB1.out.trans (hbp.trans (hl3.mono (Nat.le_trans HB1.out.size happ.2.1.size))))
          obtain ⟨bs, hbs⟩ : ∃ bs, ([] : List Pc).map (fun p : Pc => Value.bool p.2) = bs := ⟨_, rfl⟩
          have HBS := Lib.hid hbs
          have HO7 := Lib.hid (show (w2.alloc (.cells #[.bool true] 4)).ownsRow w.heap.size 4 1 (.slice A7 m c7) m bs by rw [← hbs]; exact own_below ho7 hl3)
          have HL3 := Lib.hid hl3
          have HN2 := Lib.hid (Rd.new w2 4 1 1 [.bool true] rfl)
          obtain ⟨A6', c6', rfl, _⟩ := own_form happ.own
          clear happ hbp ho7 hl3 hbs
          go_wp2_with (at_builtin; refine wpList_append_rd _ rfl (.tmp 56) (.tmp 58) 100 rfl w.heap.size 4 i2 _ 1 1 Try.underlying100 hi2 x0 x1 x2 rfl (by decide) _ m _ rfl HO7.out _ (some ⟨w2.heap.size, 0, none⟩) 1 1 [.bool true] rfl HN2.out (by intro u hu; simp at hu; subst hu; rfl) (by simp only [maxLen]; omega) (by omega) HB2.out.size ?_)
          intro v7' w4 happ7
          have hap8 := happ7
          rw [← HBS.out] at hap8
          have HSN := Lib.hid (HST.out.push hzW HAP.out HL3.out hap8)
          have HK4 := Lib.hid (blk_app HK2.out HO7.out (by decide) happ7)
          have HB4 := Lib.hid (HB2.out.trans (happ7.below HB2.out.size HO7.out))
          have HPN := Lib.hid (HPS.out.trans (pushP_new HMN.out (fun h => by have := h.2; simp [lastIn] at this)))
          clear happ7 hap8 HO7 HN2 HL3 HAP HBS
          go_wp2_with fail
          exact ⟨⟨k + 1, m + 1, _, by omega, by go_num, by omega, by rw [HPN.out]; exact HSN.out, by rw [HPN.out]; exact len_snoc HPL.out (by simp), HK4.out, HB4.out⟩, by simp [intOf]; omega⟩
        · rw [List.concat_eq_append] at HST HPS HPL
          obtain ⟨m', rfl⟩ : ∃ m', m = m' + 1 := ⟨a.length, by have := HST.out.len; simp at this; omega⟩
          cases bl
          · obtain ⟨g7, cc7, e7, _, _, _⟩ := own_some HST.out.o7 (by omega)
            cases e7
            have t7 : wr.cell? ⟨g7, m', none⟩ = some (.bool false) := by
              have hal : a.length = m' := by have := HST.out.len; simp at this; omega
              rw [HST.out.o7.cellAt m' (by omega), List.getElem?_map, List.getElem?_append_right (by omega), hal]
              simp
            have hzW := HB.out.size
            have hl1 := (Below.refl wr.heap.size wr).alloc (Nat.le_refl _) (.cells #[.int .i32 x] 21)
            have hl2 := hl1.alloc (by simp) (.cells #[.slice (some ⟨wr.heap.size, 0, none⟩) 1 1] 23)
            have HS1 := Lib.hid (HST.out.go hl2)
            have HK1 := Lib.hid (Blk.below HK.out hl2 HK.out.lt)
            have HB1 := Lib.hid (HB.out.trans (hl2.mono hzW))
            have HN1 := Lib.hid (show Rd ((wr.alloc (.cells #[.int .i32 x] 21)).alloc (.cells #[.slice (some ⟨wr.heap.size, 0, none⟩) 1 1] 23)) (wr.heap.size + 1 + 1) 1 (some ⟨wr.heap.size + 1, 0, none⟩) 1 [.slice (some ⟨wr.heap.size, 0, none⟩) 1 1] by
              have := Rd.new (wr.alloc (.cells #[.int .i32 x] 21)) 23 1 1 [.slice (some ⟨wr.heap.size, 0, none⟩) 1 1] rfl
              simpa using this)
            have H1C := Lib.hid (show ∀ u ∈ [Value.slice (some ⟨wr.heap.size, 0, none⟩) 1 1], u.oneCell' = true by intro u hu; simp at hu; subst hu; rfl)
            clear hl1 hl2
            go_wp2_with (at_builtin; refine wpList_append_rd _ rfl (.tmp 51) (.tmp 54) 59 rfl w.heap.size 23 i1 _ 1 24 Try.underlying59 hi1 y0 y1 y2 rfl (by decide) _ (m' + 1) _ rfl HS1.out.o6 _ (some ⟨wr.heap.size + 1, 0, none⟩) 1 1 [.slice (some ⟨wr.heap.size, 0, none⟩) 1 1] rfl HN1.out H1C.out (by simp only [maxLen]; omega) (by omega) HB1.out.size ?_)
            intro v6' w2 happ
            have hbp := happ.below HB1.out.size HS1.out.o6
            have ho7 := own_kept_other HS1.out.o7 HS1.out.o6 (by decide) happ
            have hl3 := (Below.refl w2.heap.size w2).alloc (Nat.le_refl _) (.cells #[.bool true] 4)
            have HAP := Lib.hid happ
            have HK2 := Lib.hid (Blk.below (blk_app HK1.out HS1.out.o6 (by decide) happ) hl3 (Nat.lt_of_lt_of_le HK1.out.lt (happ.2.1.size)))
            have HB2 := Lib.hid (HB1.out.trans (hbp.trans (hl3.mono (Nat.le_trans HB1.out.size happ.2.1.size))))
            obtain ⟨bs, hbs⟩ : ∃ bs, (a ++ [(pc, false)]).map (fun p : Pc => Value.bool p.2) = bs := ⟨_, rfl⟩
            have HBS := Lib.hid hbs
            have HO7 := Lib.hid (show (w2.alloc (.cells #[.bool true] 4)).ownsRow w.heap.size 4 1 (.slice (some ⟨g7, 0, none⟩) (m' + 1) c7) (m' + 1) bs by rw [← hbs]; exact own_below ho7 hl3)
            have HL3 := Lib.hid hl3
            have HN2 := Lib.hid (Rd.new w2 4 1 1 [.bool true] rfl)
            obtain ⟨A6', c6', rfl, _⟩ := own_form happ.own
            clear happ hbp ho7 hl3 hbs
            go_wp2_with (at_builtin; refine wpList_append_rd _ rfl (.tmp 56) (.tmp 58) 100 rfl w.heap.size 4 i2 _ 1 1 Try.underlying100 hi2 x0 x1 x2 rfl (by decide) _ (m' + 1) _ rfl HO7.out _ (some ⟨w2.heap.size, 0, none⟩) 1 1 [.bool true] rfl HN2.out (by intro u hu; simp at hu; subst hu; rfl) (by simp only [maxLen]; omega) (by omega) HB2.out.size ?_)
            intro v7' w4 happ7
            have hap8 := happ7
            rw [← HBS.out] at hap8
            have HSN := Lib.hid (HST.out.push hzW HAP.out HL3.out hap8)
            have HK4 := Lib.hid (blk_app HK2.out HO7.out (by decide) happ7)
            have HB4 := Lib.hid (HB2.out.trans (happ7.below HB2.out.size HO7.out))
            have HPN := Lib.hid (HPS.out.trans (pushP_new HMN.out (fun h => by have := h.2; rw [lastIn_snoc] at this; cases this)))
            clear happ7 hap8 HO7 HN2 HL3 HAP HBS
            go_wp2_with fail
            exact ⟨⟨k + 1, m' + 1 + 1, _, by omega, by go_num, by omega, by rw [HPN.out]; exact HSN.out, by rw [HPN.out]; exact len_snoc HPL.out (by simp), HK4.out, HB4.out⟩, by simp [intOf]; omega⟩
          · have hzW := HB.out.size
            obtain ⟨g6, cc6, e6, _, _, _⟩ := own_some HST.out.o6 (by omega)
            cases e6
            obtain ⟨g7, cc7, e7, _, _, _⟩ := own_some HST.out.o7 (by omega)
            cases e7
            obtain ⟨us0, u, rfl⟩ : ∃ us0 u, us = us0 ++ [u] := by
              rcases List.eq_nil_or_concat us with e | ⟨us0, u, e⟩
              · have := HST.out.ul; rw [e] at this; simp at this
              · exact ⟨us0, u, by rw [e, List.concat_eq_append]⟩
            have hul : us0.length = m' := by have := HST.out.ul; simp at this; omega
            have hal : a.length = m' := by have := HST.out.len; simp at this; omega
            have hu : (us0 ++ [u])[m']? = some u := by rw [List.getElem?_append_right (by omega), hul]; simp
            have hp : (a ++ [(pc, true)])[m']? = some (pc, true) := by rw [List.getElem?_append_right (by omega), hal]; simp
            have how := HST.out.own m' _ u hp hu
            obtain ⟨gu, hgu⟩ := HST.out.blk m' u hu
            obtain ⟨cu, rfl, _⟩ := own_blk how hgu
            have HLP := Lib.hid (show pc.length ≤ 1000000 by have := HPL.out (pc, true) (by simp); simp only at this; omega)
            have t6 : wr.cell? ⟨g6, m', none⟩ = some (.slice (some ⟨gu, 0, none⟩) pc.length cu) := by rw [HST.out.o6.cellAt m' (by omega)]; exact hu
            have t7 : wr.cell? ⟨g7, m', none⟩ = some (.bool true) := by rw [HST.out.o7.cellAt m' (by omega), List.getElem?_map, hp]; rfl
            have hl1 := (Below.refl wr.heap.size wr).alloc (Nat.le_refl _) (.cells #[.int .i32 x] 21)
            have HS1 := Lib.hid (HST.out.go hl1)
            have HK1 := Lib.hid (Blk.below HK.out hl1 HK.out.lt)
            have HB1 := Lib.hid (HB.out.trans (hl1.mono hzW))
            have HOW := Lib.hid (own_below how hl1)
            have HN1 := Lib.hid (Rd.new wr 21 1 1 [.int .i32 x] rfl)
            obtain ⟨n, hn⟩ : ∃ n, pc.length = n := ⟨_, rfl⟩
            rw [hn] at t6 HOW HLP
            clear hl1 how hgu hu hp
            have hn1 := HLP.out
            go_wp2_with (at_builtin; refine wpList_append_rd _ rfl (.tmp 46) (.tmp 48) 23 rfl w.heap.size 21 i0 _ 1 4 Try.underlying23 hi z0 z1 z2 rfl (by decide) _ n _ rfl HOW.out _ (some ⟨wr.heap.size, 0, none⟩) 1 1 (runeCells [x]) rfl HN1.out (runeCells_one _) (by simp only [maxLen]; omega) (by omega) HB1.out.size ?_)
            intro u' w2 happ
            obtain ⟨hsn, q6, f6⟩ := HS1.out.ext hul hn happ
            have HSN := Lib.hid hsn
            have hb2 := happ.below HB1.out.size HOW.out
            have hK2 := blk_app HK1.out HOW.out (by decide) happ
            have hg6 : g6 ≠ w.heap.size := fun e => own_ne_blk' HS1.out.o6 HK1.out (by decide) (by rw [e]; rfl)
            obtain ⟨Au, cu', rfl, _⟩ := own_form happ.own
            have HK3 := Lib.hid ((Below.heap_setCell w2 ⟨g6, m', none⟩ (.slice Au (n + 1) cu') w.heap.size (fun e => hg6 e.symm)).trans hK2)
            have HB3 := Lib.hid ((HB1.out.trans hb2).setCell (p := ⟨g6, m', none⟩) (by have := (own_lt hsn.o6 rfl).1; exact this) (.slice Au (n + 1) cu'))
            have HPN := Lib.hid (HPS.out.trans (pushP_ext HMN.out))
            clear happ hsn hb2 hK2
            go_wp2_with fail
            exact ⟨⟨k + 1, m' + 1, _, by omega, by go_num, by omega, by rw [HPN.out]; exact HSN.out, by rw [HPN.out]; exact len_snoc (fun p hp => HPL.out p (List.mem_append_left _ hp)) (by have := HPL.out (pc, true) (by simp); simp only [List.length_append, List.length_cons, List.length_nil] at this ⊢; omega), HK3.out, HB3.out⟩, by simp [intOf]; omega⟩
      · have HHS := Lib.hid (ref2_has A1 n1 c1 s.only x wr (by omega) (RdX.of (HSA.out wr HB.out).only))
        rw [ho] at s0
        have HMX := Lib.hid (show meant s x = hasP s.only x by unfold meant; rw [ho]; rfl)
        clear ho
        go_upto_region 6 with fail
        go_wp2_with fail
        refine HHS.out.mono ?_
        rintro e w1 ⟨rfl, hb1⟩
        have HST := Lib.hid (HST.out.go hb1)
        have HK := Lib.hid (Blk.below HK.out hb1 HK.out.lt)
        have hzz := hb1.size
        have HB := Lib.hid (HB.out.trans (hb1.mono HB.out.size))
        clear hb1 HHS
        cases hh : hasP s.only x
        · have HMN := Lib.hid (HMX.out.trans hh)
          clear hh
          have hzW := HB.out.size
          have hl1 := (Below.refl w1.heap.size w1).alloc (Nat.le_refl _) (.cells #[.int .i32 x] 21)
          have hl2 := hl1.alloc (by simp) (.cells #[.slice (some ⟨w1.heap.size, 0, none⟩) 1 1] 23)
          have HS1 := Lib.hid (HST.out.go hl2)
          have HK1 := Lib.hid (Blk.below HK.out hl2 HK.out.lt)
          have HB1 := Lib.hid (HB.out.trans (hl2.mono hzW))
          have HN1 := Lib.hid (show Rd ((w1.alloc (.cells #[.int .i32 x] 21)).alloc (.cells #[.slice (some ⟨w1.heap.size, 0, none⟩) 1 1] 23)) (w1.heap.size + 1 + 1) 1 (some ⟨w1.heap.size + 1, 0, none⟩) 1 [.slice (some ⟨w1.heap.size, 0, none⟩) 1 1] by
            have := Rd.new (w1.alloc (.cells #[.int .i32 x] 21)) 23 1 1 [.slice (some ⟨w1.heap.size, 0, none⟩) 1 1] rfl
            simpa using this)
          have H1C := Lib.hid (show ∀ u ∈ [Value.slice (some ⟨w1.heap.size, 0, none⟩) 1 1], u.oneCell' = true by intro u hu; simp at hu; subst hu; rfl)
          clear hl1 hl2
          go_wp2_with (at_builtin; refine wpList_append_rd _ rfl (.tmp 51) (.tmp 54) 59 rfl w.heap.size 23 i1 _ 1 24 Try.underlying59 hi1 y0 y1 y2 rfl (by decide) _ m _ rfl HS1.out.o6 _ (some ⟨w1.heap.size + 1, 0, none⟩) 1 1 [.slice (some ⟨w1.heap.size, 0, none⟩) 1 1] rfl HN1.out H1C.out (by simp only [maxLen]; omega) (by omega) HB1.out.size ?_)
          intro v6' w2 happ
          have hbp := happ.below HB1.out.size HS1.out.o6
          have ho7 := own_kept_other HS1.out.o7 HS1.out.o6 (by decide) happ
          have hl3 := (Below.refl w2.heap.size w2).alloc (Nat.le_refl _) (.cells #[.bool false] 4)
          have HAP := Lib.hid happ
          have HK2 := Lib.hid (Blk.below (blk_app HK1.out HS1.out.o6 (by decide) happ) hl3 (Nat.lt_of_lt_of_le HK1.out.lt (happ.2.1.size)))
          have HB2 := Lib.hid (HB1.out.trans (hbp.trans (hl3.mono (Nat.le_trans HB1.out.size happ.2.1.size))))
          obtain ⟨bs, hbs⟩ : ∃ bs, acc.map (fun p : Pc => Value.bool p.2) = bs := ⟨_, rfl⟩
          have HBS := Lib.hid hbs
          have HO7 := Lib.hid (show (w2.alloc (.cells #[.bool false] 4)).ownsRow w.heap.size 4 1 (.slice A7 m c7) m bs by rw [← hbs]; exact own_below ho7 hl3)
          have HL3 := Lib.hid hl3
          have HN2 := Lib.hid (Rd.new w2 4 1 1 [.bool false] rfl)
          obtain ⟨A6', c6', rfl, _⟩ := own_form happ.own
          clear happ hbp ho7 hl3 hbs
          go_wp2_with (at_builtin; refine wpList_append_rd _ rfl (.tmp 56) (.tmp 58) 100 rfl w.heap.size 4 i2 _ 1 1 Try.underlying100 hi2 x0 x1 x2 rfl (by decide) _ m _ rfl HO7.out _ (some ⟨w2.heap.size, 0, none⟩) 1 1 [.bool false] rfl HN2.out (by intro u hu; simp at hu; subst hu; rfl) (by simp only [maxLen]; omega) (by omega) HB2.out.size ?_)
          intro v7' w4 happ7
          have hap8 := happ7
          rw [← HBS.out] at hap8
          have HSN := Lib.hid (HST.out.push hzW HAP.out HL3.out hap8)
          have HK4 := Lib.hid (blk_app HK2.out HO7.out (by decide) happ7)
          have HB4 := Lib.hid (HB2.out.trans (happ7.below HB2.out.size HO7.out))
          have HPN := Lib.hid (HPS.out.trans (pushP_new HMN.out (fun h => by cases h.1)))
          clear happ7 hap8 HO7 HN2 HL3 HAP HBS
          go_wp2_with fail
          exact ⟨⟨k + 1, m + 1, _, by omega, by go_num, by omega, by rw [HPN.out]; exact HSN.out, by rw [HPN.out]; exact len_snoc HPL.out (by simp), HK4.out, HB4.out⟩, by simp [intOf]; omega⟩
        · have HMN := Lib.hid (HMX.out.trans hh)
          clear hh
          rcases List.eq_nil_or_concat acc with rfl | ⟨a, ⟨pc, bl⟩, rfl⟩
          · have HM0 := Lib.hid (show m = 0 by have := HST.out.len; simp at this; omega)
            have hd0 : decide ((0 : Int) ≤ (m : Int) - 1) = false := decide_eq_false (by have := HM0.out; omega)
            have hd1 : decide ((1 : Int) ≤ (m : Int)) = false := decide_eq_false (by have := HM0.out; omega)
            have hzW := HB.out.size
            have hl1 := (Below.refl w1.heap.size w1).alloc (Nat.le_refl _) (.cells #[.int .i32 x] 21)
            have hl2 := hl1.alloc (by simp) (.cells #[.slice (some ⟨w1.heap.size, 0, none⟩) 1 1] 23)
            have HS1 := Lib.hid (HST.out.go hl2)
            have HK1 := Lib.hid (Blk.below HK.out hl2 HK.out.lt)
            have HB1 := Lib.hid (HB.out.trans (hl2.mono hzW))
            have HN1 := Lib.hid (show Rd ((w1.alloc (.cells #[.int .i32 x] 21)).alloc (.cells #[.slice (some ⟨w1.heap.size, 0, none⟩) 1 1] 23)) (w1.heap.size + 1 + 1) 1 (some ⟨w1.heap.size + 1, 0, none⟩) 1 [.slice (some ⟨w1.heap.size, 0, none⟩) 1 1] by
              have := Rd.new (w1.alloc (.cells #[.int .i32 x] 21)) 23 1 1 [.slice (some ⟨w1.heap.size, 0, none⟩) 1 1] rfl
              simpa using this)
            have H1C := Lib.hid (show ∀ u ∈ [Value.slice (some ⟨w1.heap.size, 0, none⟩) 1 1], u.oneCell' = true by intro u hu; simp at hu; subst hu; rfl)
            clear hl1 hl2
            go_wp2_with (at_builtin; refine wpList_append_rd _ rfl (.tmp 51) (.tmp 54) 59 rfl w.heap.size 23 i1 _ 1 24 Try.underlying59 hi1 y0 y1 y2 rfl (by decide) _ m _ rfl HS1.out.o6 _ (some ⟨w1.heap.size + 1, 0, none⟩) 1 1 [.slice (some ⟨w1.heap.size, 0, none⟩) 1 1] rfl HN1.out H1C.out (by simp only [maxLen]; omega) (by omega) HB1.out.size ?_)
            intro v6' w2 happ
            have hbp := happ.below HB1.out.size HS1.out.o6
            have ho7 := own_kept_other HS1.out.o7 HS1.out.o6 (by decide) happ
            have hl3 := (Below.refl w2.heap.size w2).alloc (Nat.le_refl _) (.cells #[.bool true] 4)
            have HAP := Lib.hid happ
            have HK2 := Lib.hid (Blk.below (blk_app HK1.out HS1.out.o6 (by decide) happ) hl3 (Nat.lt_of_lt_of_le HK1.out.lt (happ.2.1.size)))
            have HB2 := Lib.hid (HB1.out.trans (hbp.trans (hl3.mono (Nat.le_trans HB1.out.size happ.2.1.size))))
            obtain ⟨bs, hbs⟩ : ∃ bs, ([] : List Pc).map (fun p : Pc => Value.bool p.2) = bs := ⟨_, rfl⟩
            have HBS := Lib.hid hbs
            have HO7 := Lib.hid (show (w2.alloc (.cells #[.bool true] 4)).ownsRow w.heap.size 4 1 (.slice A7 m c7) m bs by rw [← hbs]; exact own_below ho7 hl3)
            have HL3 := Lib.hid hl3
            have HN2 := Lib.hid (Rd.new w2 4 1 1 [.bool true] rfl)
            obtain ⟨A6', c6', rfl, _⟩ := own_form happ.own
            clear happ hbp ho7 hl3 hbs
            go_wp2_with (at_builtin; refine wpList_append_rd _ rfl (.tmp 56) (.tmp 58) 100 rfl w.heap.size 4 i2 _ 1 1 Try.underlying100 hi2 x0 x1 x2 rfl (by decide) _ m _ rfl HO7.out _ (some ⟨w2.heap.size, 0, none⟩) 1 1 [.bool true] rfl HN2.out (by intro u hu; simp at hu; subst hu; rfl) (by simp only [maxLen]; omega) (by omega) HB2.out.size ?_)
            intro v7' w4 happ7
            have hap8 := happ7
            rw [← HBS.out] at hap8
            have HSN := Lib.hid (HST.out.push hzW HAP.out HL3.out hap8)
            have HK4 := Lib.hid (blk_app HK2.out HO7.out (by decide) happ7)
            have HB4 := Lib.hid (HB2.out.trans (happ7.below HB2.out.size HO7.out))
            have HPN := Lib.hid (HPS.out.trans (pushP_new HMN.out (fun h => by have := h.2; simp [lastIn] at this)))
            clear happ7 hap8 HO7 HN2 HL3 HAP HBS
            go_wp2_with fail
            exact ⟨⟨k + 1, m + 1, _, by omega, by go_num, by omega, by rw [HPN.out]; exact HSN.out, by rw [HPN.out]; exact len_snoc HPL.out (by simp), HK4.out, HB4.out⟩, by simp [intOf]; omega⟩
          · rw [List.concat_eq_append] at HST HPS HPL
            obtain ⟨m', rfl⟩ : ∃ m', m = m' + 1 := ⟨a.length, by have := HST.out.len; simp at this; omega⟩
            cases bl
            · obtain ⟨g7, cc7, e7, _, _, _⟩ := own_some HST.out.o7 (by omega)
              cases e7
              have t7 : w1.cell? ⟨g7, m', none⟩ = some (.bool false) := by
                have hal : a.length = m' := by have := HST.out.len; simp at this; omega
                rw [HST.out.o7.cellAt m' (by omega), List.getElem?_map, List.getElem?_append_right (by omega), hal]
                simp
              have hzW := HB.out.size
              have hl1 := (Below.refl w1.heap.size w1).alloc (Nat.le_refl _) (.cells #[.int .i32 x] 21)
              have hl2 := hl1.alloc (by simp) (.cells #[.slice (some ⟨w1.heap.size, 0, none⟩) 1 1] 23)
              have HS1 := Lib.hid (HST.out.go hl2)
              have HK1 := Lib.hid (Blk.below HK.out hl2 HK.out.lt)
              have HB1 := Lib.hid (HB.out.trans (hl2.mono hzW))
              have HN1 := Lib.hid (show Rd ((w1.alloc (.cells #[.int .i32 x] 21)).alloc (.cells #[.slice (some ⟨w1.heap.size, 0, none⟩) 1 1] 23)) (w1.heap.size + 1 + 1) 1 (some ⟨w1.heap.size + 1, 0, none⟩) 1 [.slice (some ⟨w1.heap.size, 0, none⟩) 1 1] by
                have := Rd.new (w1.alloc (.cells #[.int .i32 x] 21)) 23 1 1 [.slice (some ⟨w1.heap.size, 0, none⟩) 1 1] rfl
                simpa using this)
              have H1C := Lib.hid (show ∀ u ∈ [Value.slice (some ⟨w1.heap.size, 0, none⟩) 1 1], u.oneCell' = true by intro u hu; simp at hu; subst hu; rfl)
              clear hl1 hl2
              go_wp2_with (at_builtin; refine wpList_append_rd _ rfl (.tmp 51) (.tmp 54) 59 rfl w.heap.size 23 i1 _ 1 24 Try.underlying59 hi1 y0 y1 y2 rfl (by decide) _ (m' + 1) _ rfl HS1.out.o6 _ (some ⟨w1.heap.size + 1, 0, none⟩) 1 1 [.slice (some ⟨w1.heap.size, 0, none⟩) 1 1] rfl HN1.out H1C.out (by simp only [maxLen]; omega) (by omega) HB1.out.size ?_)
              intro v6' w2 happ
              have hbp := happ.below HB1.out.size HS1.out.o6
              have ho7 := own_kept_other HS1.out.o7 HS1.out.o6 (by decide) happ
              have hl3 := (Below.refl w2.heap.size w2).alloc (Nat.le_refl _) (.cells #[.bool true] 4)
              have HAP := Lib.hid happ
              have HK2 := Lib.hid (Blk.below (blk_app HK1.out HS1.out.o6 (by decide) happ) hl3 (Nat.lt_of_lt_of_le HK1.out.lt (happ.2.1.size)))
              have HB2 := Lib.hid (HB1.out.trans (hbp.trans (hl3.mono (Nat.le_trans HB1.out.size happ.2.1.size))))
              obtain ⟨bs, hbs⟩ : ∃ bs, (a ++ [(pc, false)]).map (fun p : Pc => Value.bool p.2) = bs := ⟨_, rfl⟩
              have HBS := Lib.hid hbs
              have HO7 := Lib.hid (show (w2.alloc (.cells #[.bool true] 4)).ownsRow w.heap.size 4 1 (.slice (some ⟨g7, 0, none⟩) (m' + 1) c7) (m' + 1) bs by rw [← hbs]; exact own_below ho7 hl3)
              have HL3 := Lib.hid hl3
              have HN2 := Lib.hid (Rd.new w2 4 1 1 [.bool true] rfl)
              obtain ⟨A6', c6', rfl, _⟩ := own_form happ.own
              clear happ hbp ho7 hl3 hbs
              go_wp2_with (at_builtin; refine wpList_append_rd _ rfl (.tmp 56) (.tmp 58) 100 rfl w.heap.size 4 i2 _ 1 1 Try.underlying100 hi2 x0 x1 x2 rfl (by decide) _ (m' + 1) _ rfl HO7.out _ (some ⟨w2.heap.size, 0, none⟩) 1 1 [.bool true] rfl HN2.out (by intro u hu; simp at hu; subst hu; rfl) (by simp only [maxLen]; omega) (by omega) HB2.out.size ?_)
              intro v7' w4 happ7
              have hap8 := happ7
              rw [← HBS.out] at hap8
              have HSN := Lib.hid (HST.out.push hzW HAP.out HL3.out hap8)
              have HK4 := Lib.hid (blk_app HK2.out HO7.out (by decide) happ7)
              have HB4 := Lib.hid (HB2.out.trans (happ7.below HB2.out.size HO7.out))
              have HPN := Lib.hid (HPS.out.trans (pushP_new HMN.out (fun h => by have := h.2; rw [lastIn_snoc] at this; cases this)))
              clear happ7 hap8 HO7 HN2 HL3 HAP HBS
              go_wp2_with fail
              exact ⟨⟨k + 1, m' + 1 + 1, _, by omega, by go_num, by omega, by rw [HPN.out]; exact HSN.out, by rw [HPN.out]; exact len_snoc HPL.out (by simp), HK4.out, HB4.out⟩, by simp [intOf]; omega⟩
            · have hzW := HB.out.size
              obtain ⟨g6, cc6, e6, _, _, _⟩ := own_some HST.out.o6 (by omega)
              cases e6
              obtain ⟨g7, cc7, e7, _, _, _⟩ := own_some HST.out.o7 (by omega)
              cases e7
              obtain ⟨us0, u, rfl⟩ : ∃ us0 u, us = us0 ++ [u] := by
                rcases List.eq_nil_or_concat us with e | ⟨us0, u, e⟩
                · have := HST.out.ul; rw [e] at this; simp at this
                · exact ⟨us0, u, by rw [e, List.concat_eq_append]⟩
              have hul : us0.length = m' := by have := HST.out.ul; simp at this; omega
              have hal : a.length = m' := by have := HST.out.len; simp at this; omega
              have hu : (us0 ++ [u])[m']? = some u := by rw [List.getElem?_append_right (by omega), hul]; simp
              have hp : (a ++ [(pc, true)])[m']? = some (pc, true) := by rw [List.getElem?_append_right (by omega), hal]; simp
              have how := HST.out.own m' _ u hp hu
              obtain ⟨gu, hgu⟩ := HST.out.blk m' u hu
              obtain ⟨cu, rfl, _⟩ := own_blk how hgu
              have HLP := Lib.hid (show pc.length ≤ 1000000 by have := HPL.out (pc, true) (by simp); simp only at this; omega)
              have t6 : w1.cell? ⟨g6, m', none⟩ = some (.slice (some ⟨gu, 0, none⟩) pc.length cu) := by rw [HST.out.o6.cellAt m' (by omega)]; exact hu
              have t7 : w1.cell? ⟨g7, m', none⟩ = some (.bool true) := by rw [HST.out.o7.cellAt m' (by omega), List.getElem?_map, hp]; rfl
              have hl1 := (Below.refl w1.heap.size w1).alloc (Nat.le_refl _) (.cells #[.int .i32 x] 21)
              have HS1 := Lib.hid (HST.out.go hl1)
              have HK1 := Lib.hid (Blk.below HK.out hl1 HK.out.lt)
              have HB1 := Lib.hid (HB.out.trans (hl1.mono hzW))
              have HOW := Lib.hid (own_below how hl1)
              have HN1 := Lib.hid (Rd.new w1 21 1 1 [.int .i32 x] rfl)
              obtain ⟨n, hn⟩ : ∃ n, pc.length = n := ⟨_, rfl⟩
              rw [hn] at t6 HOW HLP
              clear hl1 how hgu hu hp
              have hn1 := HLP.out
              go_wp2_with (at_builtin; refine wpList_append_rd _ rfl (.tmp 46) (.tmp 48) 23 rfl w.heap.size 21 i0 _ 1 4 Try.underlying23 hi z0 z1 z2 rfl (by decide) _ n _ rfl HOW.out _ (some ⟨w1.heap.size, 0, none⟩) 1 1 (runeCells [x]) rfl HN1.out (runeCells_one _) (by simp only [maxLen]; omega) (by omega) HB1.out.size ?_)
              intro u' w2 happ
              obtain ⟨hsn, q6, f6⟩ := HS1.out.ext hul hn happ
              have HSN := Lib.hid hsn
              have hb2 := happ.below HB1.out.size HOW.out
              have hK2 := blk_app HK1.out HOW.out (by decide) happ
              have hg6 : g6 ≠ w.heap.size := fun e => own_ne_blk' HS1.out.o6 HK1.out (by decide) (by rw [e]; rfl)
              obtain ⟨Au, cu', rfl, _⟩ := own_form happ.own
              have HK3 := Lib.hid ((Below.heap_setCell w2 ⟨g6, m', none⟩ (.slice Au (n + 1) cu') w.heap.size (fun e => hg6 e.symm)).trans hK2)
              have HB3 := Lib.hid ((HB1.out.trans hb2).setCell (p := ⟨g6, m', none⟩) (by have := (own_lt hsn.o6 rfl).1; exact this) (.slice Au (n + 1) cu'))
              have HPN := Lib.hid (HPS.out.trans (pushP_ext HMN.out))
              clear happ hsn hb2 hK2
              go_wp2_with fail
              exact ⟨⟨k + 1, m' + 1, _, by omega, by go_num, by omega, by rw [HPN.out]; exact HSN.out, by rw [HPN.out]; exact len_snoc (fun p hp => HPL.out p (List.mem_append_left _ hp)) (by have := HPL.out (pc, true) (by simp); simp only [List.length_append, List.length_cons, List.length_nil] at this ⊢; omega), HK3.out, HB3.out⟩, by simp [intOf]; omega⟩
    · obtain rfl : k = nt := by omega
      have HP := Lib.hid (show piecesP s t = (t.take k).foldl (pushP s) [] by unfold piecesP; rw [List.take_of_length_le (by omega)])
      have HST := Lib.hid hst
      have HPL := Lib.hid hpl
      clear hst hpl hkb
      go_wp2_with fail
      go_ret2
      exact ⟨⟨_, _, m, us, rfl, by rw [HP.out]; exact HST.out, hmk, by rw [HP.out]; exact HPL.out⟩, hb⟩

end Go.Proofs.Ytfmebbnccjaadaa
