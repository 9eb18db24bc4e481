/- resolve.ready of a file that is right. -/
import Derived.Test.YthcjiainpaebfaaReadyEnd
import Derived.Deep.CutBlock
import Derived.Deep.RegionLaw
namespace Go.Proofs.Ythcjiainpaebfaa
open Go.RowKit Go.Maps

/-- How far ready has come: k parts. -/
def RdRel (B : Nat) (w : World) (mb : Nat) (l : List PartD) (n : Nat) (i : Value) (wr : World) : Prop :=
  ∃ (k nm : Nat) (s t : StD) (va vb vp vq : Value) (Af : Option Addr) (nf cf : Nat), k ≤ n ∧ nm ≤ k ∧ i = .int .i64 k ∧ uptoP false l k = .ok s ∧ uptoP true l k = .ok t ∧
    EnvM wr (· < B) mb nm (l.take k) ∧ RySt B (mb + 5) s.a t.a s.ps t.ps va vb vp vq wr ∧ Vars4 (mb + 1) (mb + 2) (mb + 3) (mb + 4) va vb vp vq wr ∧ mb + 5 ≤ wr.heap.size ∧ w.heap.size + 3 ≤ mb ∧
    Res3 w #[.bool s.some?, .slice Af nf cf, .slice none 0 0] zeroScript #[.int .i64 0, .int .i64 0] wr ∧ SetV wr (Rows4 B (mb + 5) va vb vp vq) s.only (.slice Af nf cf) ∧
    s.a.length ≤ k ∧ t.a.length ≤ k ∧ s.ps.length ≤ 2 * k ∧ t.ps.length ≤ 2 * k
theorem place4 (B mb : Nat) (h : B ≤ mb) : Place4 B (mb + 5) (mb + 1) (mb + 2) (mb + 3) (mb + 4) := by
  constructor <;> omega

/-- The world in which the loop of ready begins. -/
abbrev startW (W1 : World) : World :=
  ((((W1.alloc (.map #[] 0)).alloc (.cells #[.slice none 0 0] 53)).alloc (.cells #[.slice none 0 0] 53)).alloc (.cells #[.slice none 0 0] 24)).alloc (.cells #[.slice none 0 0] 24)
theorem start_state (B : Nat) (w W1 : World) (hr : Res3 w zeroScript zeroScript #[.int .i64 0, .int .i64 0] W1) :
    EnvM (startW W1) (· < B) W1.heap.size 0 [] ∧ Vars4 (W1.heap.size + 1) (W1.heap.size + 2) (W1.heap.size + 3) (W1.heap.size + 4) (.slice none 0 0) (.slice none 0 0) (.slice none 0 0) (.slice none 0 0) (startW W1) ∧
    W1.heap.size + 5 ≤ (startW W1).heap.size ∧ w.heap.size + 3 ≤ W1.heap.size ∧ Res3 w zeroScript zeroScript #[.int .i64 0, .int .i64 0] (startW W1) := by
  have hb0 : Below W1.heap.size W1 (W1.alloc (.map #[] 0)) := (Below.refl _ _).alloc (Nat.le_refl _) _
  have hb1 : Below (W1.alloc (.map #[] 0)).heap.size (W1.alloc (.map #[] 0)) (startW W1) :=
    ((((Below.refl _ _).alloc (Nat.le_refl _) _).alloc (by simp) _).alloc (by simp) _).alloc (by simp) _
  refine ⟨EnvM.keep (Keeps.below hb1 (fun _ h _ => h)) (hb1.block _ (by simp)) (EnvM.made W1 (· < B)), ⟨?_, ?_, ?_, ?_⟩, by simp, hr.2.2.1.lt, hr.below (hb0.trans (hb1.mono (by simp)))⟩
  · have := Blk.alloc (Blk.alloc (Blk.alloc (Blk.new (W1.alloc (.map #[] 0)) 53 #[.slice none 0 0]) (.cells #[.slice none 0 0] 53)) (.cells #[.slice none 0 0] 24)) (.cells #[.slice none 0 0] 24)
    simpa using this
  · have := Blk.alloc (Blk.alloc (Blk.new ((W1.alloc (.map #[] 0)).alloc (.cells #[.slice none 0 0] 53)) 53 #[.slice none 0 0]) (.cells #[.slice none 0 0] 24)) (.cells #[.slice none 0 0] 24)
    simpa using this
  · have := Blk.alloc (Blk.new (((W1.alloc (.map #[] 0)).alloc (.cells #[.slice none 0 0] 53)).alloc (.cells #[.slice none 0 0] 53)) 24 #[.slice none 0 0]) (.cells #[.slice none 0 0] 24)
    simpa using this
  · have := Blk.new ((((W1.alloc (.map #[] 0)).alloc (.cells #[.slice none 0 0] 53)).alloc (.cells #[.slice none 0 0] 53)).alloc (.cells #[.slice none 0 0] 24)) 24 #[.slice none 0 0]
    simpa using this

set_option maxRecDepth 100000 in
set_option maxHeartbeats 25600000 in
theorem syn_ready_ok (B : Nat) (A : Option Addr) (n c : Nat) (l : List PartD) (w : World) (hn : n ≤ maxLen) (hBw : B ≤ w.heap.size) (hl : RdP w B A n l) (hw : (fileP l).1 = 0) :
    Calls Try.prog 14 #[.slice A n c] w fun e w' => RdyPost B w.heap.size w' l e ∧ Below w.heap.size w w' := by
  have hrf : ∀ w', Below w.heap.size w w' → Calls Try.prog 22 #[.slice A n c] w' fun e w2 => e = .returned (.agg #[.int .i64 (fileP l).1, .int .i64 (fileP l).2]) ∧ Below w'.heap.size w' w2 :=
    fun w' hb => rulesyn_wrong A n c l w' hn (RdP.weak (weak_of (hb.mono hBw) (Nat.le_trans hBw hb.size)) hl)
  obtain ⟨h200, hfp, hall⟩ := file_ok hw
  obtain ⟨i0, hi, hz0, hz1, hz2⟩ := info_parts infoPassB
  obtain ⟨j0, hj, hy0, hy1, hy2⟩ := info_parts infoRuleB
  have hn200 : n ≤ 200 := by rw [← RdL.len hl]; exact h200
  rw [hfp] at hrf
  have HW0 := Lib.hid hw
  have HALL := Lib.hid hall
  have HLEN := Lib.hid (RdL.len hl)
  have HL := Lib.hid hl
  have HRF := Lib.hid hrf
  have HR0 := Lib.hid (Res3.made w)
  clear hw hfp hall h200 hl hrf hn
  go_enter Try.func14, Try.ntmps14
  have hmm := @run_makeMap Try.prog
  go_wp2_with fail
  refine (HRF.out _ HR0.out.2.2.2).mono ?_
  rintro e w1 ⟨rfl, hb1⟩
  have hr := Res3.below HR0.out hb1
  have c0 : w1.cell? ⟨w.heap.size + 2, 0, none⟩ = some (.int .i64 0) := hr.2.2.1.cell 0
  have c1 : w1.cell? ⟨w.heap.size + 2, 1, none⟩ = some (.int .i64 0) := hr.2.2.1.cell 1
  have d6 := hr.2.2.1.frozen 0
  have d7 := hr.2.2.1.frozen 1
  have hr3 : Res3 w zeroScript zeroScript #[.int .i64 0, .int .i64 0] ((w1.setCell ⟨w.heap.size + 1 + 1, 0, none⟩ (.int .i64 0)).setCell ⟨w.heap.size + 1 + 1, 1, none⟩ (.int .i64 0)) := by
    obtain ⟨g1, g2, g3, g4⟩ := hr
    refine ⟨blk_set_ne (blk_set_ne g1 (by omega)) (by omega), blk_set_ne (blk_set_ne g2 (by omega)) (by omega), ?_, (g4.setCell (by simp; omega) _).setCell (by simp; omega) _⟩
    have := (g3.put 0 (.int .i64 0)).put 1 (.int .i64 0)
    simpa using this
  have HR := Lib.hid hr3
  clear hb1 hr hr3
  go_upto_region 4 with fail
  have hr := HR.out
  clear HR
  generalize (w1.setCell ⟨w.heap.size + 1 + 1, 0, none⟩ (.int .i64 0)).setCell ⟨w.heap.size + 1 + 1, 1, none⟩ (.int .i64 0) = W1 at *
  have hst := start_state B w W1 hr
  have HST := Lib.hid hst
  clear hr hst
  go_wp2_with fail
  go_loopw [32] (RdRel B w W1.heap.size l n) (fun i _ => n - (intOf i).toNat)
  case atStart =>
    obtain ⟨h1, h2, h3, h4, _⟩ := HST.out
    refine ⟨0, 0, ⟨false, [], [], []⟩, ⟨false, [], [], []⟩, _, _, _, _, none, 0, 0, Nat.zero_le _, Nat.le_refl _, rfl, rfl, rfl, ?_, RySt.nil _ _ _, h2, h3, h4, ?_, ?_, Nat.le_refl _, Nat.le_refl _, Nat.le_refl _, Nat.le_refl _⟩
    · exact h1
    · exact HST.out.2.2.2.2
    · exact ⟨none, 0, 0, rfl, ⟨rfl, fun h => absurd h (Nat.lt_irrefl 0)⟩, Nat.zero_le _⟩
  case round =>
    obtain ⟨k, nm, s, t, va, vb, vp, vq, Af, nf, cf, hk, hnm, rfl, hus, hut, henv, hry, hv4, hsz, hmb, hres, hset, la, lb, lp, lq⟩ := hrel
    by_cases hlt : k < n
    · obtain ⟨p, hp⟩ : ∃ z, l[k]? = some z := ⟨_, List.getElem?_eq_getElem (by rw [HLEN.out]; exact hlt)⟩
      have hpk := part_kinds (HALL.out p (List.mem_of_getElem? hp))
      have hb := hres.2.2.2
      obtain ⟨b, off, A', n', c', L1, L2, L3, R1, R2, R3, a1, a2, a3, x1, x2, x3, b1, b2, b3, y1, y2, y3, rfl, hbb, ⟨f0, f1, f2, f3, f4, f5, f6, f7, f8, f9, f10, f11, f12, f13, f14, f15⟩, hs, hn', l1, l2, l3, la1, la2, la3, r1, r2, r3, ra1, ra2, ra3, cl, cr, hm⟩ := part_at HL.out hp
      have hbw := Nat.lt_of_lt_of_le hbb hBw
      have d0 := (hb.cell (p := ⟨b, off + k * 16, none⟩) hbw).trans f0
      have d1 := (hb.cell (p := ⟨b, off + k * 16 + 1, none⟩) hbw).trans f1
      have d2 := (hb.cell (p := ⟨b, off + k * 16 + 2, none⟩) hbw).trans f2
      have d3 := (hb.cell (p := ⟨b, off + k * 16 + 3, none⟩) hbw).trans f3
      have d4 := (hb.cell (p := ⟨b, off + k * 16 + 4, none⟩) hbw).trans f4
      have d5 := (hb.cell (p := ⟨b, off + k * 16 + 5, none⟩) hbw).trans f5
      have d6 := (hb.cell (p := ⟨b, off + k * 16 + 6, none⟩) hbw).trans f6
      have d7 := (hb.cell (p := ⟨b, off + k * 16 + 7, none⟩) hbw).trans f7
      have d8 := (hb.cell (p := ⟨b, off + k * 16 + 8, none⟩) hbw).trans f8
      have d9 := (hb.cell (p := ⟨b, off + k * 16 + 9, none⟩) hbw).trans f9
      have d10 := (hb.cell (p := ⟨b, off + k * 16 + 10, none⟩) hbw).trans f10
      have d11 := (hb.cell (p := ⟨b, off + k * 16 + 11, none⟩) hbw).trans f11
      have d12 := (hb.cell (p := ⟨b, off + k * 16 + 12, none⟩) hbw).trans f12
      have d13 := (hb.cell (p := ⟨b, off + k * 16 + 13, none⟩) hbw).trans f13
      have d14 := (hb.cell (p := ⟨b, off + k * 16 + 14, none⟩) hbw).trans f14
      have d15 := (hb.cell (p := ⟨b, off + k * 16 + 15, none⟩) hbw).trans f15
      clear f0 f1 f2 f3 f4 f5 f6 f7 f8 f9 f10 f11 f12 f13 f14 f15
      have hbx : Below wr.heap.size wr ((wr.alloc (.cells #[.int .i64 k] 3)).alloc (.cells #[.int .i64 p.kind, .string p.name, .slice A' n' c', .int .i64 p.dir, .bool p.left.start, .bool p.left.fin, .slice L1 a1 x1, .slice L2 a2 x2, .slice L3 a3 x3, .int .i64 p.left.cursor, .bool p.right.start, .bool p.right.fin, .slice R1 b1 y1, .slice R2 b2 y2, .slice R3 b3 y3, .int .i64 p.right.cursor] 40)) := ((Below.refl _ _).alloc (Nat.le_refl _) _).alloc (by simp) _
      have hki : Blk ((wr.alloc (.cells #[.int .i64 k] 3)).alloc (.cells #[.int .i64 p.kind, .string p.name, .slice A' n' c', .int .i64 p.dir, .bool p.left.start, .bool p.left.fin, .slice L1 a1 x1, .slice L2 a2 x2, .slice L3 a3 x3, .int .i64 p.left.cursor, .bool p.right.start, .bool p.right.fin, .slice R1 b1 y1, .slice R2 b2 y2, .slice R3 b3 y3, .int .i64 p.right.cursor] 40)) wr.heap.size 3 #[.int .i64 k] := Blk.alloc (Blk.new _ _ _) _
      have hkp := Blk.new (wr.alloc (.cells #[.int .i64 k] 3)) 40 #[.int .i64 p.kind, .string p.name, .slice A' n' c', .int .i64 p.dir, .bool p.left.start, .bool p.left.fin, .slice L1 a1 x1, .slice L2 a2 x2, .slice L3 a3 x3, .int .i64 p.left.cursor, .bool p.right.start, .bool p.right.fin, .slice R1 b1 y1, .slice R2 b2 y2, .slice R3 b3 y3, .int .i64 p.right.cursor]
      rw [show (wr.alloc (.cells #[.int .i64 k] 3)).heap.size = wr.heap.size + 1 by simp] at hkp
      have HEN := Lib.hid (EnvM.keep (X' := (· < B)) (Keeps.below hbx (fun _ h _ => h)) (hbx.block _ henv.lt) henv)
      have HRY := Lib.hid (hry.below hbx)
      have HV4 := Lib.hid (show Vars4 (W1.heap.size + 1) (W1.heap.size + 2) (W1.heap.size + 3) (W1.heap.size + 4) va vb vp vq _ from ⟨Blk.below hv4.1 hbx hv4.1.lt, Blk.below hv4.2.1 hbx hv4.2.1.lt, Blk.below hv4.2.2.1 hbx hv4.2.2.1.lt, Blk.below hv4.2.2.2 hbx hv4.2.2.2.lt⟩)
      have HRS := Lib.hid (hres.below hbx)
      have HSV := Lib.hid (SetV.keep (Keeps.below (X' := Rows4 B (W1.heap.size + 5) va vb vp vq) hbx (fun _ h _ => h)) hset)
      have HKI := Lib.hid hki
      have HKP := Lib.hid hkp
      have HBX := Lib.hid hbx
      have hst := upto_same hus hut
      have HUS := Lib.hid (uptoP_step hus hp)
      have HUT := Lib.hid (uptoP_step hut hp)
      have HP := Lib.hid hp
      have HPK := Lib.hid hpk
      have HSS := Lib.hid hs
      have HM := Lib.hid hm
      have HLS := Lib.hid (And.intro l1 (And.intro l2 (And.intro l3 (And.intro r1 (And.intro r2 r3)))))
      clear hbx hki hkp henv hry hv4 hres hset hus hut hp hpk hs hb hm
      go_upto_block 2 with fail
      have hs2 : ((wr.alloc (.cells #[.int .i64 k] 3)).alloc (.cells #[.int .i64 p.kind, .string p.name, .slice A' n' c', .int .i64 p.dir, .bool p.left.start, .bool p.left.fin, .slice L1 a1 x1, .slice L2 a2 x2, .slice L3 a3 x3, .int .i64 p.left.cursor, .bool p.right.start, .bool p.right.fin, .slice R1 b1 y1, .slice R2 b2 y2, .slice R3 b3 y3, .int .i64 p.right.cursor] 40)).heap.size = wr.heap.size + 2 := by simp
      clear l1 l2 l3 la1 la2 la3 r1 r2 r3 ra1 ra2 ra3 cl cr
      clear d0 d1 d2 d3 d4 d5 d6 d7 d8 d9 d10 d11 d12 d13 d14 d15 HRF HST HL HR0 c0 c1 hmm
      generalize ((wr.alloc (.cells #[.int .i64 k] 3)).alloc (.cells #[.int .i64 p.kind, .string p.name, .slice A' n' c', .int .i64 p.dir, .bool p.left.start, .bool p.left.fin, .slice L1 a1 x1, .slice L2 a2 x2, .slice L3 a3 x3, .int .i64 p.left.cursor, .bool p.right.start, .bool p.right.fin, .slice R1 b1 y1, .slice R2 b2 y2, .slice R3 b3 y3, .int .i64 p.right.cursor] 40)) = W2 at *
      have e0 : W2.cell? ⟨wr.heap.size + 1, 0, none⟩ = some (.int .i64 p.kind) := HKP.out.cell 0
      have e1 : W2.cell? ⟨wr.heap.size + 1, 1, none⟩ = some (.string p.name) := HKP.out.cell 1
      have e2 : W2.cell? ⟨wr.heap.size + 1, 2, none⟩ = some (.slice A' n' c') := HKP.out.cell 2
      have hkk := HPK.out
      rcases hkk with ⟨h1, h2, h3⟩ | ⟨h1, h3⟩ | ⟨h1, h2⟩ | ⟨h1, hr⟩
      · -- a name
        have q1 : (p.kind == 1) = true := by rw [h1]; rfl
        have hnm := HM.out
        obtain ⟨D, hD1, hD2, hD3⟩ := HEN.out
        have hat := hD3 p.name
        have HD := Lib.hid hD1
        have HD2 := Lib.hid hD2
        have HD3 := Lib.hid hD3
        have H1 := Lib.hid h1
        have hb0 := HKP.out.lt
        clear hD1 hD2 hD3 h1 h2 h3
        cases hlk : lookP (l.take k) p.name with
        | some x =>
          rw [hlk] at hat
          obtain ⟨u, g1, g2, _⟩ := hat
          have HT1 := Lib.hid g1
          have HT2 := Lib.hid g2
          have HFP := Lib.hid (fail_post (B := B) (lo := w.heap.size) (er := 7) HW0.out (by rw [HLEN.out]; exact hlt) (HUS.out.trans (step_name_in H1.out hlk)) (HUT.out.trans (step_name_in H1.out hlk)))
          clear g1 g2 hlk
          go_wp2_with (at_lookup; refine wpList_env rfl (.tmp 43) (.tmp 45) rfl W1.heap.size nm D rfl HD.out p.name rfl hnm u true HT1.out HT2.out ?_)
          refine (syn_fail 7 k wr.heap.size W2 (HKI.out.cell 0)).mono ?_
          rintro e wx ⟨rfl, hbx⟩
          have HX := Lib.hid (HRS.out.below hbx)
          clear hbx
          have z0 : wx.cell? ⟨w.heap.size, 0, none⟩ = some (.bool s.some?) := HX.out.1.cell 0
          have z1 : wx.cell? ⟨w.heap.size, 1, none⟩ = some (.slice Af nf cf) := HX.out.1.cell 1
          have z2 : wx.cell? ⟨w.heap.size, 2, none⟩ = some (.slice none 0 0) := HX.out.1.cell 2
          have z3 : wx.cell? ⟨w.heap.size + 1, 0, none⟩ = some (.bool false) := HX.out.2.1.cell 0
          have z4 : wx.cell? ⟨w.heap.size + 1, 1, none⟩ = some (.slice none 0 0) := HX.out.2.1.cell 1
          have z5 : wx.cell? ⟨w.heap.size + 1, 2, none⟩ = some (.slice none 0 0) := HX.out.2.1.cell 2
          have z6 : wx.cell? ⟨w.heap.size + 1 + 1, 0, none⟩ = some (.int .i64 0) := HX.out.2.2.1.cell 0
          have z7 : wx.cell? ⟨w.heap.size + 1 + 1, 1, none⟩ = some (.int .i64 0) := HX.out.2.2.1.cell 1
          have y0 := HX.out.1.frozen 0
          have y1 := HX.out.1.frozen 1
          have y2 := HX.out.1.frozen 2
          have y3 := HX.out.2.1.frozen 0
          have y4 := HX.out.2.1.frozen 1
          have y5 := HX.out.2.1.frozen 2
          have y6 : wx.frozen? ⟨w.heap.size + 1 + 1, 0, none⟩ = false := HX.out.2.2.1.frozen 0
          have y7 : wx.frozen? ⟨w.heap.size + 1 + 1, 1, none⟩ = false := HX.out.2.2.1.frozen 1
          have FB := Lib.hid HX.out.2.2.2
          go_wp2_with fail
          have hbl := (((((((FB.out.setCell (p := ⟨w.heap.size, 0, none⟩) (by simp) (.bool false)).setCell (p := ⟨w.heap.size, 1, none⟩) (by simp) (.slice none 0 0)).setCell (p := ⟨w.heap.size, 2, none⟩) (by simp) (.slice none 0 0)).setCell (p := ⟨w.heap.size + 1, 0, none⟩) (by simp) (.bool false)).setCell (p := ⟨w.heap.size + 1, 1, none⟩) (by simp) (.slice none 0 0)).setCell (p := ⟨w.heap.size + 1, 2, none⟩) (by simp) (.slice none 0 0)).setCell (p := ⟨w.heap.size + 1 + 1, 0, none⟩) (by simp; omega) (.int .i64 7)).setCell (p := ⟨w.heap.size + 1 + 1, 1, none⟩) (by simp; omega) (.int .i64 k)
          refine bodyPost_ret (v := .tuple #[.agg #[.bool false, .slice none 0 0, .slice none 0 0], .agg #[.bool false, .slice none 0 0, .slice none 0 0], .agg #[.int .i64 7, .int .i64 k]]) (by simp [results, Try.results14, go_sem, z0, z1, z2, z3, z4, z5, z6, z7]) rfl ⟨HFP.out _, ?_⟩
          exact hbl
        | none =>
          rw [hlk] at hat
          have HT1 := Lib.hid hat.1
          have HT2 := Lib.hid hat.2
          have HUS2 := Lib.hid (HUS.out.trans (step_name_new H1.out hlk))
          have HUT2 := Lib.hid (HUT.out.trans (step_name_new H1.out hlk))
          have HLK := Lib.hid hlk
          clear hat hlk
          go_wp2_with (first
            | (at_lookup; refine wpList_env rfl (.tmp 43) (.tmp 45) rfl W1.heap.size nm D rfl HD.out p.name rfl hnm (.slice none 0 0) false HT1.out HT2.out ?_)
            | (at_mapUpdate; refine wpList_mapUpdate_own _ rfl (.tmp 55) (.tmp 57) (.tmp 59) 65 rfl 9 23 key_law Try.underlying65 Raw W1.heap.size nm D rfl HD.out (by unfold maxLen; omega) (.string p.name) (.slice A' n' c') (keyL p.name) rfl rfl (key_of hnm) (.held (.slice A' n' c')) [] rfl ?_; intro w9 hown9 hgrow9))
          refine ⟨⟨k + 1, nm + 1, s, t, va, vb, vp, vq, Af, nf, cf, hlt, by omega, rfl, HUS2.out, HUT2.out, ?_, HRY.out.map hgrow9 (by omega) (by omega), HV4.out.map hgrow9 (by omega) (by omega) (by omega) (by omega), Nat.le_trans (by omega) hgrow9.size, hmb, HRS.out.map hgrow9 hmb,
            SetV.keep (keeps_map hgrow9 (fun b hb => by rcases hb with h | h <;> omega)) HSV.out, by omega, by omega, by omega, by omega⟩, by simp only [intOf]; omega⟩
          rw [take_snoc HP.out]
          exact EnvM.put HD2.out HD3.out H1.out HLK.out ⟨A', n', c', rfl, RdX.of_rd (Rd.below HSS.out (HRS.out.2.2.2.mono hBw)) (Nat.le_trans hBw HRS.out.2.2.2.size) (fun _ h => h), hn'⟩ (keeps_map hgrow9 (fun b hb => by omega)) hown9
      · -- a filter
        have q1 : (p.kind == 1) = false := by rw [h1]; rfl
        have q3 : (p.kind == 3) = true := by rw [h1]; rfl
        have H1 := Lib.hid h1
        have hb0 := HKP.out.lt
        have hsm := set_small h3
        have z0 : W2.cell? ⟨w.heap.size, 0, none⟩ = some (.bool s.some?) := HRS.out.1.cell 0
        clear h1 h3
        cases hso : s.some? with
        | true =>
          rw [hso] at z0
          have hto : t.some? = true := hst.1.symm.trans hso
          have HFP := Lib.hid (fail_post (B := B) (lo := w.heap.size) (er := 5) HW0.out (by rw [HLEN.out]; exact hlt) (HUS.out.trans (step_filter_again H1.out hso)) (HUT.out.trans (step_filter_again H1.out hto)))
          go_wp2_with fail
          refine (syn_fail 5 k wr.heap.size W2 (HKI.out.cell 0)).mono ?_
          rintro e wx ⟨rfl, hbx⟩
          have HX := Lib.hid (HRS.out.below hbx)
          clear hbx
          clear z0
          have z0 : wx.cell? ⟨w.heap.size, 0, none⟩ = some (.bool s.some?) := HX.out.1.cell 0
          have z1 : wx.cell? ⟨w.heap.size, 1, none⟩ = some (.slice Af nf cf) := HX.out.1.cell 1
          have z2 : wx.cell? ⟨w.heap.size, 2, none⟩ = some (.slice none 0 0) := HX.out.1.cell 2
          have z3 : wx.cell? ⟨w.heap.size + 1, 0, none⟩ = some (.bool false) := HX.out.2.1.cell 0
          have z4 : wx.cell? ⟨w.heap.size + 1, 1, none⟩ = some (.slice none 0 0) := HX.out.2.1.cell 1
          have z5 : wx.cell? ⟨w.heap.size + 1, 2, none⟩ = some (.slice none 0 0) := HX.out.2.1.cell 2
          have z6 : wx.cell? ⟨w.heap.size + 1 + 1, 0, none⟩ = some (.int .i64 0) := HX.out.2.2.1.cell 0
          have z7 : wx.cell? ⟨w.heap.size + 1 + 1, 1, none⟩ = some (.int .i64 0) := HX.out.2.2.1.cell 1
          have y0 := HX.out.1.frozen 0
          have y1 := HX.out.1.frozen 1
          have y2 := HX.out.1.frozen 2
          have y3 := HX.out.2.1.frozen 0
          have y4 := HX.out.2.1.frozen 1
          have y5 := HX.out.2.1.frozen 2
          have y6 : wx.frozen? ⟨w.heap.size + 1 + 1, 0, none⟩ = false := HX.out.2.2.1.frozen 0
          have y7 : wx.frozen? ⟨w.heap.size + 1 + 1, 1, none⟩ = false := HX.out.2.2.1.frozen 1
          have FB := Lib.hid HX.out.2.2.2
          go_wp2_with fail
          have hbl := (((((((FB.out.setCell (p := ⟨w.heap.size, 0, none⟩) (by simp) (.bool false)).setCell (p := ⟨w.heap.size, 1, none⟩) (by simp) (.slice none 0 0)).setCell (p := ⟨w.heap.size, 2, none⟩) (by simp) (.slice none 0 0)).setCell (p := ⟨w.heap.size + 1, 0, none⟩) (by simp) (.bool false)).setCell (p := ⟨w.heap.size + 1, 1, none⟩) (by simp) (.slice none 0 0)).setCell (p := ⟨w.heap.size + 1, 2, none⟩) (by simp) (.slice none 0 0)).setCell (p := ⟨w.heap.size + 1 + 1, 0, none⟩) (by simp; omega) (.int .i64 5)).setCell (p := ⟨w.heap.size + 1 + 1, 1, none⟩) (by simp; omega) (.int .i64 k)
          refine bodyPost_ret (v := .tuple #[.agg #[.bool false, .slice none 0 0, .slice none 0 0], .agg #[.bool false, .slice none 0 0, .slice none 0 0], .agg #[.int .i64 5, .int .i64 k]]) (by simp [results, Try.results14, go_sem, z0, z1, z2, z3, z4, z5, z6, z7]) rfl ⟨HFP.out _, ?_⟩
          exact hbl
        | false =>
          rw [hso] at z0
          have hto : t.some? = false := hst.1.symm.trans hso
          have HUS2 := Lib.hid (HUS.out.trans (step_filter H1.out hso))
          have HUT2 := Lib.hid (HUT.out.trans (step_filter H1.out hto))
          have z1 : W2.cell? ⟨w.heap.size, 1, none⟩ = some (.slice Af nf cf) := HRS.out.1.cell 1
          have HRD := Lib.hid (Rd.below HSS.out (HRS.out.2.2.2.mono hBw))
          have hn2 : n' ≤ 1000 := by have := RdS.len HSS.out; omega
          go_wp2_with fail
          refine (clone_set A' n' c' B p.set _ HRD.out hn2).mono ?_
          rintro e wx ⟨⟨u, rfl, hu⟩, hbx⟩
          have HB := Lib.hid hbx
          have HX := Lib.hid (HRS.out.below hbx)
          have hu2 := hu
          obtain ⟨A7, n7, c7, rfl, _⟩ := hu2
          have HU := Lib.hid hu
          clear hbx hu
          clear z0 z1
          have z0 : wx.cell? ⟨w.heap.size, 0, none⟩ = some (.bool s.some?) := HX.out.1.cell 0
          have z1 : wx.cell? ⟨w.heap.size, 1, none⟩ = some (.slice Af nf cf) := HX.out.1.cell 1
          have y0 := HX.out.1.frozen 0
          have y1 := HX.out.1.frozen 1
          go_wp2_with fail
          have hw2 := HB.out.size
          have hk2 : Keeps wx (Rows4 B (W1.heap.size + 5) va vb vp vq) ((wx.setCell ⟨w.heap.size, 0, none⟩ (.bool true)).setCell ⟨w.heap.size, 1, none⟩ (.slice A7 n7 c7)) (Rows4 B (W1.heap.size + 5) va vb vp vq) :=
            (Keeps.setCell (X' := Rows4 B (W1.heap.size + 5) va vb vp vq) _ (fun b hb => by rcases hb with h | h <;> dsimp only <;> omega) (fun _ h _ => h)).trans (Keeps.setCell _ (fun b hb => by rcases hb with h | h <;> dsimp only <;> omega) (fun _ h _ => h))
          refine ⟨⟨k + 1, nm, _, _, va, vb, vp, vq, A7, n7, c7, hlt, by omega, rfl, HUS2.out, HUT2.out, ?_, ((HRY.out.below HB.out).set hBw (by omega)).set hBw (by omega), ((HV4.out.below HB.out).set (by omega) (by omega) (by omega) (by omega)).set (by omega) (by omega) (by omega) (by omega), by simp; omega, hmb, ?_,
            SetV.keep hk2 (SetV.keep (Keeps.refl (fun b hb => HRY.out.fresh (by omega) b hb)) HU.out), by dsimp only; omega, by dsimp only; omega, by dsimp only; omega, by dsimp only; omega⟩, by simp only [intOf]; omega⟩
          · rw [take_snoc HP.out]
            exact EnvM.other (((HEN.out.below HB.out).set hBw (by omega)).set hBw (by omega)) (by rw [H1.out]; decide)
          · have := (HX.out.setF 0 (.bool true)).setF 1 (.slice A7 n7 c7)
            simpa using this
      · -- a pass
        have q1 : (p.kind == 1) = false := by rw [h1]; rfl
        have q3 : (p.kind == 3) = false := by rw [h1]; rfl
        have q4 : (p.kind == 4) = true := by rw [h1]; rfl
        have HUS2 := Lib.hid (show uptoP false l (k + 1) = .ok ⟨s.some?, s.only, s.ps ++ pend s.a ++ [⟨p.name, []⟩], []⟩ from HUS.out.trans (step_pass h1))
        have HUT2 := Lib.hid (show uptoP true l (k + 1) = .ok ⟨t.some?, t.only, t.ps ++ pend t.a ++ [⟨inverseP p.name, []⟩], []⟩ from HUT.out.trans (step_pass h1))
        have HST := Lib.hid (show RdSt B w W1.heap.size nm (l.take k) s.some? s.only s.a t.a s.ps t.ps va vb vp vq Af nf cf W2 from ⟨hBw, HEN.out, HRY.out, HV4.out, by omega, hmb, HRS.out, HSV.out⟩)
        have H1 := Lib.hid h1
        have hb0 := HKP.out.lt
        clear h1 h2
        go_wp2_with fail
        refine (syn_close B (W1.heap.size + 5) (W1.heap.size + 1) (W1.heap.size + 2) (W1.heap.size + 3) (W1.heap.size + 4) (place4 _ _ (by omega)) s.a t.a s.ps t.ps va vb vp vq W2 (by omega) HRY.out HV4.out (by omega) (by omega) (by omega) (by omega)).mono ?_
        rintro e wx ⟨rfl, vp', vq', hry, hv, hbut, hg1, hg2⟩
        have hst1 := HST.out.close hry hv hbut hg1 hg2
        have hnp := HRY.out.neP HKP.out (by decide)
        have hkp1 := hbut.blk HKP.out (by omega) (by omega) (by omega) (by omega) hnp.1 hnp.2
        obtain ⟨Ap, kp, rfl, _⟩ := hst1.ry.2.2.1.form
        obtain ⟨Aq, kq, rfl, _⟩ := hst1.ry.2.2.2.1.form
        have z0 : wx.cell? ⟨W1.heap.size + 3, 0, none⟩ = some (.slice Ap (s.ps ++ pend s.a).length kp) := hst1.v4.2.2.1.cell 0
        have z1 : wx.cell? ⟨wr.heap.size + 1, 1, none⟩ = some (.string p.name) := hkp1.cell 1
        have z2 := hst1.v4.2.2.1.frozen 0
        have hlp : (s.ps ++ pend s.a).length ≤ 2 * k + 1 := by rw [List.length_append]; cases s.a <;> simp [pend] <;> omega
        have hlq : (t.ps ++ pend t.a).length ≤ 2 * k + 1 := by rw [List.length_append]; cases t.a <;> simp [pend] <;> omega
        have hk400 : k ≤ 200 := by omega
        generalize hP : s.ps ++ pend s.a = P1 at *
        generalize hQ : t.ps ++ pend t.a = Q1 at *
        have HP1 := Lib.hid hP
        have HQ1 := Lib.hid hQ
        have hst2 := hst1.ry
        obtain ⟨_, _, ⟨css, g1, g2, g3, g4⟩, _⟩ := hst2
        have HST1 := Lib.hid hst1
        have HKP1 := Lib.hid hkp1
        have G1 := Lib.hid g1
        have G2 := Lib.hid g2
        have G3 := Lib.hid g3
        have G4 := Lib.hid g4
        have HN := Lib.hid (Rd.new wx 55 2 1 [.string p.name, .slice none 0 0] rfl)
        have HO := Lib.hid (World.ownsRow.alloc g4 (.cells #[.string p.name, .slice none 0 0] 55))
        have H1C := Lib.hid (show ∀ (s : ByteArray), ∀ u ∈ [Value.string s, Value.slice none 0 0], u.oneCell' = true by intro s x hx; simp at hx; rcases hx with rfl | rfl <;> rfl)
        have HZ := Lib.hid hst1.sz
        clear hP hQ hst1 hkp1 hry hv hbut hg1 hg2 hnp g1 g2 g3 g4 HST HRY HV4 HEN HRS HSV HKP HKI HUS HUT e0 e1 e2
        go_upto_region 25 with (at_builtin; refine wpList_append_rd _ rfl (.tmp 78) (.tmp 82) 24 rfl (W1.heap.size + 5) 55 i0 _ 2 40 Try.underlying24 hi hz0 hz1 hz2 rfl (by decide) _ _ _ rfl HO.out _ (some ⟨wx.heap.size, 0, none⟩) 1 1 [.string p.name, .slice none 0 0] rfl HN.out (H1C.out _) (by simp only [maxLen]; omega) (by omega) (by have := HZ.out; simp; omega) ?_)
        intro v9 w9 happ
        have ho9 := happ.own
        obtain ⟨A9, k9, rfl, _⟩ := own_form ho9
        clear ho9
        have hst3 := HST1.out.pushP G1.out G2.out G3.out G4.out (pass_none _ _ p.name) rfl happ
        obtain ⟨_, x2, _, _⟩ := HST1.out.app G4.out (by decide) (by decide) (by decide) (by decide) happ
        have c9 : w9.cell? ⟨W1.heap.size + 3, 0, none⟩ = some (.slice Ap P1.length kp) := x2.2.2.1.cell 0
        have f9 := x2.2.2.1.frozen 0
        have hkp2 := blk_set_ne (g := W1.heap.size + 3) (i := 0) (u := .slice A9 (P1.length + 1) k9) (blk_app (Blk.alloc HKP1.out _) HO.out (by decide) happ) (by omega)
        have HST3 := Lib.hid hst3
        have HKP2 := Lib.hid hkp2
        clear happ hst3 hkp2 x2 G1 G2 G3 G4 HN HO HZ z0 z1 z2
        go_upto_region 25 with fail
        have hst3 := HST3.out
        have hkp2 := HKP2.out
        clear HST3 HKP2 c9 f9 HST1 HKP1
        generalize (w9.setCell ⟨W1.heap.size + 3, 0, none⟩ (.slice A9 (P1.length + 1) k9)) = W3 at *
        have hst4 := hst3.drew.ry
        obtain ⟨_, _, _, ⟨dss, d1, d2, d3, d4⟩, _⟩ := hst4
        have hn4 := Rd.new W3.drew 55 2 1 [.string (inverseP p.name), .slice none 0 0] rfl
        have ho4 := World.ownsRow.alloc d4 (.cells #[.string (inverseP p.name), .slice none 0 0] 55)
        have HST3 := Lib.hid hst3
        have HKP2 := Lib.hid hkp2
        have D1 := Lib.hid d1
        have D2 := Lib.hid d2
        have D3 := Lib.hid d3
        have D4 := Lib.hid d4
        have HN4 := Lib.hid hn4
        have HO4 := Lib.hid ho4
        have hz4 := hst3.sz
        clear hst3 hkp2 d1 d2 d3 d4 hn4 ho4
        have n0 : W3.cell? ⟨W1.heap.size + 4, 0, none⟩ = some (.slice Aq Q1.length kq) := HST3.out.v4.2.2.2.cell 0
        have n1 : W3.cell? ⟨wr.heap.size + 1, 1, none⟩ = some (.string p.name) := HKP2.out.cell 1
        have n2 := HKP2.out.lt
        have n3 : (W3.alloc (.cells #[.string (inverseP p.name), .slice none 0 0] 55)).cell? ⟨W1.heap.size + 1 + 1 + 1 + 1, 0, none⟩ = some (.slice Aq Q1.length kq) := (HST3.out.alloc _).v4.2.2.2.cell 0
        go_region_law
          (first
            | (go_simp
               go_at_call 26
               refine (syn_inverse p.name _).mono ?_
               rintro e w' ⟨rfl, rfl⟩
               dsimp only)
            | (refine step_append_rd _ rfl (.tmp 84) (.tmp 89) 24 rfl (W1.heap.size + 5) 55 i0 _ 2 40 Try.underlying24 hi hz0 hz1 hz2 rfl (by decide) _ _ _ rfl HO4.out _ (some ⟨W3.heap.size, 0, none⟩) 1 1 [.string (inverseP p.name), .slice none 0 0] rfl HN4.out (H1C.out _) (by simp only [maxLen]; omega) (by omega) (by simp; omega) ?_
               intro v9 w8 happ
               have ho9 := happ.own
               obtain ⟨A8, k8, rfl, _⟩ := own_form ho9
               clear ho9
               have HST5 := Lib.hid (HST3.out.drew.pushQ D1.out D2.out D3.out D4.out (pass_none _ _ (inverseP p.name)) rfl happ)
               have HX2 := Lib.hid (HST3.out.drew.app D4.out (by decide) (by decide) (by decide) (by decide) happ).2.1
               have HKP9 := Lib.hid (blk_app (Blk.alloc (Blk.drewN HKP2.out 1) (.cells #[.string (inverseP p.name), .slice none 0 0] 55)) HO4.out (by decide) happ)
               clear happ
               have c9 : w8.cell? ⟨W1.heap.size + 4, 0, none⟩ = some (.slice Aq Q1.length kq) := HX2.out.2.2.2.cell 0
               have f9 := HX2.out.2.2.2.frozen 0))
        all_goals
          go_wp2_with fail
          refine ⟨⟨k + 1, nm, _, _, .slice none 0 0, .slice none 0 0, _, _, Af, nf, cf, hlt, by omega, by go_num, HUS2.out, HUT2.out, ?_, HST5.out.ry, HST5.out.v4, HST5.out.sz, hmb, HST5.out.res, HST5.out.set, by simp, by simp, by simp only [List.length_append, List.length_singleton]; omega, by simp only [List.length_append, List.length_singleton]; omega⟩, by simp only [intOf]; omega⟩
          rw [take_snoc HP.out]
          exact EnvM.other HST5.out.env (by rw [H1.out]; decide)
      · -- a rule
        have q1 : (p.kind == 1) = false := by rw [h1]; rfl
        have q3 : (p.kind == 3) = false := by rw [h1]; rfl
        have q4 : (p.kind == 4) = false := by rw [h1]; rfl
        have q2 : (p.kind == 2) = true := by rw [h1]; rfl
        obtain ⟨hdir, ⟨ka1, ka2, ka3⟩, ⟨kb1, kb2, kb3⟩⟩ := hr
        obtain ⟨l1, l2, l3, r1, r2, r3⟩ := HLS.out
        have HST := Lib.hid (show RdSt B w W1.heap.size nm (l.take k) s.some? s.only s.a t.a s.ps t.ps va vb vp vq Af nf cf W2 from ⟨hBw, HEN.out, HRY.out, HV4.out, by omega, hmb, HRS.out, HSV.out⟩)
        have wk := weak_of (HRS.out.2.2.2.mono hBw) (Nat.le_refl _)
        have hR1 := syn_rule W1.heap.size nm (l.take k) p.left p.right L1 L2 L3 R1 R2 R3 a1 a2 a3 x1 x2 x3 b1 b2 b3 y1 y2 y3 W2 B (Nat.le_trans hBw HRS.out.2.2.2.size) HEN.out (look_small HALL.out k) (RdIt.weak wk l1) (RdIt.weak wk l2) (RdIt.weak wk l3) ka1 ka2 ka3 (RdIt.weak wk r2) kb2
        have hR2 := fun (w' : World) (hb : Below W2.heap.size W2 w') => syn_rule W1.heap.size nm (l.take k) p.right p.left R1 R2 R3 L1 L2 L3 b1 b2 b3 y1 y2 y3 a1 a2 a3 x1 x2 x3 w' B (Nat.le_trans (Nat.le_trans hBw HRS.out.2.2.2.size) hb.size) (HEN.out.below hb) (look_small HALL.out k) (RdIt.weak (weak_of (hb.mono (Nat.le_trans hBw HRS.out.2.2.2.size)) (Nat.le_refl _)) (RdIt.weak wk r1)) (RdIt.weak (weak_of (hb.mono (Nat.le_trans hBw HRS.out.2.2.2.size)) (Nat.le_refl _)) (RdIt.weak wk r2)) (RdIt.weak (weak_of (hb.mono (Nat.le_trans hBw HRS.out.2.2.2.size)) (Nat.le_refl _)) (RdIt.weak wk r3)) kb1 kb2 kb3 (RdIt.weak (weak_of (hb.mono (Nat.le_trans hBw HRS.out.2.2.2.size)) (Nat.le_refl _)) (RdIt.weak wk l2)) ka2
        generalize hX : ruleP' (l.take k) p.left p.right = X at hR1
        generalize hY : ruleP' (l.take k) p.right p.left = Y at hR2
        generalize hbx : X.isSome = bx at *
        generalize hby : Y.isSome = bz at *
        have HRA := Lib.hid hR1
        have HRB := Lib.hid hR2
        have H1 := Lib.hid h1
        have HX := Lib.hid hX
        have HY := Lib.hid hY
        have HBX2 := Lib.hid hbx
        have HBY2 := Lib.hid hby
        have HDIR := Lib.hid hdir
        have hb0 := HKP.out.lt
        have m4 : W2.cell? ⟨wr.heap.size + 1, 4, none⟩ = some (.bool p.left.start) := HKP.out.cell 4
        have m5 : W2.cell? ⟨wr.heap.size + 1, 5, none⟩ = some (.bool p.left.fin) := HKP.out.cell 5
        have m6 : W2.cell? ⟨wr.heap.size + 1, 6, none⟩ = some (.slice L1 a1 x1) := HKP.out.cell 6
        have m7 : W2.cell? ⟨wr.heap.size + 1, 7, none⟩ = some (.slice L2 a2 x2) := HKP.out.cell 7
        have m8 : W2.cell? ⟨wr.heap.size + 1, 8, none⟩ = some (.slice L3 a3 x3) := HKP.out.cell 8
        have m9 : W2.cell? ⟨wr.heap.size + 1, 9, none⟩ = some (.int .i64 p.left.cursor) := HKP.out.cell 9
        have m10 : W2.cell? ⟨wr.heap.size + 1, 10, none⟩ = some (.bool p.right.start) := HKP.out.cell 10
        have m11 : W2.cell? ⟨wr.heap.size + 1, 11, none⟩ = some (.bool p.right.fin) := HKP.out.cell 11
        have m12 : W2.cell? ⟨wr.heap.size + 1, 12, none⟩ = some (.slice R1 b1 y1) := HKP.out.cell 12
        have m13 : W2.cell? ⟨wr.heap.size + 1, 13, none⟩ = some (.slice R2 b2 y2) := HKP.out.cell 13
        have m14 : W2.cell? ⟨wr.heap.size + 1, 14, none⟩ = some (.slice R3 b3 y3) := HKP.out.cell 14
        have m15 : W2.cell? ⟨wr.heap.size + 1, 15, none⟩ = some (.int .i64 p.right.cursor) := HKP.out.cell 15
        clear hR1 hR2 hX hY hbx hby h1 hdir l1 l2 l3 r1 r2 r3 wk ka1 ka2 ka3 kb1 kb2 kb3
        go_wp2_with fail
        refine HRA.out.mono ?_
        rintro e wa ⟨⟨cs, hc7, he, hc1, hcr⟩, hba⟩
        rw [HBX2.out] at he
        subst he
        obtain ⟨u0, u1, u2, u3, u4, u5, u6, rfl⟩ := list7 hc7
        have o0 := fun (w : World) (a : Addr) (m : Mode) => run_store Try.prog w a u0 m (hc1 u0 (by simp))
        have o1 := fun (w : World) (a : Addr) (m : Mode) => run_store Try.prog w a u1 m (hc1 u1 (by simp))
        have o2 := fun (w : World) (a : Addr) (m : Mode) => run_store Try.prog w a u2 m (hc1 u2 (by simp))
        have o3 := fun (w : World) (a : Addr) (m : Mode) => run_store Try.prog w a u3 m (hc1 u3 (by simp))
        have o4 := fun (w : World) (a : Addr) (m : Mode) => run_store Try.prog w a u4 m (hc1 u4 (by simp))
        have o5 := fun (w : World) (a : Addr) (m : Mode) => run_store Try.prog w a u5 m (hc1 u5 (by simp))
        have o6 := fun (w : World) (a : Addr) (m : Mode) => run_store Try.prog w a u6 m (hc1 u6 (by simp))
        have HC1 := Lib.hid hc1
        have HCR := Lib.hid hcr
        have HBA := Lib.hid hba
        clear hc7 hc1 hcr hba HRA m4 m5 m6 m7 m8 m9 m10 m11 m12 m13 m14 m15
        go_upto_region 28 with fail
        have hu : Blk (wa.alloc (.cells #[u0, u1, u2, u3, u4, u5, u6] 59)) wa.heap.size 59 #[u0, u1, u2, u3, u4, u5, u6] := Blk.new wa _ _
        have hbu : Below wa.heap.size wa (wa.alloc (.cells #[u0, u1, u2, u3, u4, u5, u6] 59)) := (Below.refl _ _).alloc (Nat.le_refl _) _
        have hzu : wa.heap.size + 1 ≤ (wa.alloc (.cells #[u0, u1, u2, u3, u4, u5, u6] 59)).heap.size := by simp
        have hba := HBA.out
        clear HBA
        generalize (wa.alloc (.cells #[u0, u1, u2, u3, u4, u5, u6] 59)) = W4 at *
        have hb4 : Below W2.heap.size W2 W4 := hba.trans (hbu.mono hba.size)
        have hkp4 := Blk.below HKP.out hb4 hb0
        have m4 : W4.cell? ⟨wr.heap.size + 1, 4, none⟩ = some (.bool p.left.start) := hkp4.cell 4
        have m5 : W4.cell? ⟨wr.heap.size + 1, 5, none⟩ = some (.bool p.left.fin) := hkp4.cell 5
        have m6 : W4.cell? ⟨wr.heap.size + 1, 6, none⟩ = some (.slice L1 a1 x1) := hkp4.cell 6
        have m7 : W4.cell? ⟨wr.heap.size + 1, 7, none⟩ = some (.slice L2 a2 x2) := hkp4.cell 7
        have m8 : W4.cell? ⟨wr.heap.size + 1, 8, none⟩ = some (.slice L3 a3 x3) := hkp4.cell 8
        have m9 : W4.cell? ⟨wr.heap.size + 1, 9, none⟩ = some (.int .i64 p.left.cursor) := hkp4.cell 9
        have m10 : W4.cell? ⟨wr.heap.size + 1, 10, none⟩ = some (.bool p.right.start) := hkp4.cell 10
        have m11 : W4.cell? ⟨wr.heap.size + 1, 11, none⟩ = some (.bool p.right.fin) := hkp4.cell 11
        have m12 : W4.cell? ⟨wr.heap.size + 1, 12, none⟩ = some (.slice R1 b1 y1) := hkp4.cell 12
        have m13 : W4.cell? ⟨wr.heap.size + 1, 13, none⟩ = some (.slice R2 b2 y2) := hkp4.cell 13
        have m14 : W4.cell? ⟨wr.heap.size + 1, 14, none⟩ = some (.slice R3 b3 y3) := hkp4.cell 14
        have m15 : W4.cell? ⟨wr.heap.size + 1, 15, none⟩ = some (.int .i64 p.right.cursor) := hkp4.cell 15
        have HST4 := Lib.hid (HST.out.below hb4)
        have HCR4 := Lib.hid (fun rd h => (HCR.out rd h).keep (Keeps.below (X' := Fr B W2.heap.size) (hbu.mono (Nat.le_refl _)) (fun _ h _ => h)))
        have hlt4 := hkp4.lt
        have hza := hba.size
        have hz4 := hb4.size
        have HKP4 := Lib.hid hkp4
        have HU := Lib.hid hu
        have HB4 := Lib.hid hb4
        clear hu hbu hba hb4 hkp4 HCR
        go_wp2_with fail
        refine (HRB.out W4 HB4.out).mono ?_
        rintro e wb ⟨⟨ds, hd7, he, hd1, hdr⟩, hbb⟩
        rw [HBY2.out] at he
        subst he
        obtain ⟨v0, v1, v2, v3, v4, v5, v6, rfl⟩ := list7 hd7
        have r0 := fun (w : World) (a : Addr) (m : Mode) => run_store Try.prog w a v0 m (hd1 v0 (by simp))
        have r1 := fun (w : World) (a : Addr) (m : Mode) => run_store Try.prog w a v1 m (hd1 v1 (by simp))
        have r2 := fun (w : World) (a : Addr) (m : Mode) => run_store Try.prog w a v2 m (hd1 v2 (by simp))
        have r3 := fun (w : World) (a : Addr) (m : Mode) => run_store Try.prog w a v3 m (hd1 v3 (by simp))
        have r4 := fun (w : World) (a : Addr) (m : Mode) => run_store Try.prog w a v4 m (hd1 v4 (by simp))
        have r5 := fun (w : World) (a : Addr) (m : Mode) => run_store Try.prog w a v5 m (hd1 v5 (by simp))
        have r6 := fun (w : World) (a : Addr) (m : Mode) => run_store Try.prog w a v6 m (hd1 v6 (by simp))
        have HD1 := Lib.hid hd1
        have HDR := Lib.hid hdr
        have HBB := Lib.hid hbb
        clear hd7 hd1 hdr hbb HRB m4 m5 m6 m7 m8 m9 m10 m11 m12 m13 m14 m15
        go_upto_region 29 with fail
        have hv : Blk (wb.alloc (.cells #[v0, v1, v2, v3, v4, v5, v6] 59)) wb.heap.size 59 #[v0, v1, v2, v3, v4, v5, v6] := Blk.new wb _ _
        have hbv : Below wb.heap.size wb (wb.alloc (.cells #[v0, v1, v2, v3, v4, v5, v6] 59)) := (Below.refl _ _).alloc (Nat.le_refl _) _
        have hzv : wb.heap.size + 1 ≤ (wb.alloc (.cells #[v0, v1, v2, v3, v4, v5, v6] 59)).heap.size := by simp
        have hbb := HBB.out
        clear HBB
        generalize (wb.alloc (.cells #[v0, v1, v2, v3, v4, v5, v6] 59)) = W5 at *
        have hb5 : Below W4.heap.size W4 W5 := hbb.trans (hbv.mono hbb.size)
        have hzb := hbb.size
        have hz5 := hb5.size
        have HST5 := Lib.hid (HST4.out.below hb5)
        have HKP5 := Lib.hid (Blk.below HKP4.out hb5 HKP4.out.lt)
        have HKI5 := Lib.hid (Blk.below HKI.out (HB4.out.trans (hb5.mono HB4.out.size)) HKI.out.lt)
        have HU5 := Lib.hid (Blk.below HU.out hb5 HU.out.lt)
        have HV5 := Lib.hid hv
        have HVA := Lib.hid (fun b (h : va.ownBlock = some b) => (HST.out.ry.rows.1 b h).2)
        have hrw := HST.out.ry.rows
        have HCR5 := Lib.hid (fun rd h => ((HCR4.out rd h).keep (Keeps.below (X' := Fr B W2.heap.size) hb5 (fun _ h _ => h))).keep (Keeps.refl (rows_fresh (B := B) (lo := W1.heap.size + 5) (va := va) (vb := vb) (vp := vp) (vq := vq) (fun b h => (hrw.1 b h).2) (fun b h => (hrw.2.1 b h).2) (fun b h => (hrw.2.2.1 b h).2) (fun b h => (hrw.2.2.2 b h).2) HST.out.sz)))
        have HDR5 := Lib.hid (fun rd h => ((HDR.out rd h).keep (Keeps.below (X' := Fr B W4.heap.size) hbv (fun _ h _ => h))).keep (Keeps.refl (rows_fresh (B := B) (lo := W1.heap.size + 5) (va := va) (vb := vb) (vp := vp) (vq := vq) (fun b h => Nat.lt_of_lt_of_le (hrw.1 b h).2 hz4) (fun b h => Nat.lt_of_lt_of_le (hrw.2.1 b h).2 hz4) (fun b h => Nat.lt_of_lt_of_le (hrw.2.2.1 b h).2 hz4) (fun b h => Nat.lt_of_lt_of_le (hrw.2.2.2 b h).2 hz4) (Nat.le_trans HST.out.sz hz4))))
        clear hv hbv hbb hb5 hrw HST HST4 HCR4 HDR HU HKP4 HB4 HEN HRY HV4 HRS HSV HKP HKI e0 e1 e2
        cases bx with
        | false =>
          have HFP := Lib.hid (fail_post (B := B) (lo := w.heap.size) (er := 7) HW0.out (by rw [HLEN.out]; exact hlt) (HUS.out.trans (step_rule_no H1.out (by rw [HX.out, HBX2.out]; rfl))) (HUT.out.trans (step_rule_no H1.out (by rw [HX.out, HBX2.out]; rfl))))
          have HRS5 := Lib.hid HST5.out.res
          go_wp2_with fail
          refine (syn_fail 7 k wr.heap.size W5 (HKI5.out.cell 0)).mono ?_
          rintro e wx ⟨rfl, hbx⟩
          have HX := Lib.hid (HRS5.out.below hbx)
          clear hbx
          have z0 : wx.cell? ⟨w.heap.size, 0, none⟩ = some (.bool s.some?) := HX.out.1.cell 0
          have z1 : wx.cell? ⟨w.heap.size, 1, none⟩ = some (.slice Af nf cf) := HX.out.1.cell 1
          have z2 : wx.cell? ⟨w.heap.size, 2, none⟩ = some (.slice none 0 0) := HX.out.1.cell 2
          have z3 : wx.cell? ⟨w.heap.size + 1, 0, none⟩ = some (.bool false) := HX.out.2.1.cell 0
          have z4 : wx.cell? ⟨w.heap.size + 1, 1, none⟩ = some (.slice none 0 0) := HX.out.2.1.cell 1
          have z5 : wx.cell? ⟨w.heap.size + 1, 2, none⟩ = some (.slice none 0 0) := HX.out.2.1.cell 2
          have z6 : wx.cell? ⟨w.heap.size + 1 + 1, 0, none⟩ = some (.int .i64 0) := HX.out.2.2.1.cell 0
          have z7 : wx.cell? ⟨w.heap.size + 1 + 1, 1, none⟩ = some (.int .i64 0) := HX.out.2.2.1.cell 1
          have y0 := HX.out.1.frozen 0
          have y1 := HX.out.1.frozen 1
          have y2 := HX.out.1.frozen 2
          have y3 := HX.out.2.1.frozen 0
          have y4 := HX.out.2.1.frozen 1
          have y5 := HX.out.2.1.frozen 2
          have y6 : wx.frozen? ⟨w.heap.size + 1 + 1, 0, none⟩ = false := HX.out.2.2.1.frozen 0
          have y7 : wx.frozen? ⟨w.heap.size + 1 + 1, 1, none⟩ = false := HX.out.2.2.1.frozen 1
          have FB := Lib.hid HX.out.2.2.2
          go_wp2_with fail
          have hbl := (((((((FB.out.setCell (p := ⟨w.heap.size, 0, none⟩) (by simp) (.bool false)).setCell (p := ⟨w.heap.size, 1, none⟩) (by simp) (.slice none 0 0)).setCell (p := ⟨w.heap.size, 2, none⟩) (by simp) (.slice none 0 0)).setCell (p := ⟨w.heap.size + 1, 0, none⟩) (by simp) (.bool false)).setCell (p := ⟨w.heap.size + 1, 1, none⟩) (by simp) (.slice none 0 0)).setCell (p := ⟨w.heap.size + 1, 2, none⟩) (by simp) (.slice none 0 0)).setCell (p := ⟨w.heap.size + 1 + 1, 0, none⟩) (by simp; omega) (.int .i64 7)).setCell (p := ⟨w.heap.size + 1 + 1, 1, none⟩) (by simp; omega) (.int .i64 k)
          refine bodyPost_ret (v := .tuple #[.agg #[.bool false, .slice none 0 0, .slice none 0 0], .agg #[.bool false, .slice none 0 0, .slice none 0 0], .agg #[.int .i64 7, .int .i64 k]]) (by simp [results, Try.results14, go_sem, z0, z1, z2, z3, z4, z5, z6, z7]) rfl ⟨HFP.out _, ?_⟩
          exact hbl
        | true =>
        cases bz with
        | false =>
          have HFP := Lib.hid (fail_post (B := B) (lo := w.heap.size) (er := 7) HW0.out (by rw [HLEN.out]; exact hlt) (HUS.out.trans (step_rule_no H1.out (by rw [HX.out, HBX2.out, HY.out, HBY2.out]; rfl))) (HUT.out.trans (step_rule_no H1.out (by rw [HX.out, HBX2.out, HY.out, HBY2.out]; rfl))))
          have HRS5 := Lib.hid HST5.out.res
          go_wp2_with fail
          refine (syn_fail 7 k wr.heap.size W5 (HKI5.out.cell 0)).mono ?_
          rintro e wx ⟨rfl, hbx⟩
          have HX := Lib.hid (HRS5.out.below hbx)
          clear hbx
          have z0 : wx.cell? ⟨w.heap.size, 0, none⟩ = some (.bool s.some?) := HX.out.1.cell 0
          have z1 : wx.cell? ⟨w.heap.size, 1, none⟩ = some (.slice Af nf cf) := HX.out.1.cell 1
          have z2 : wx.cell? ⟨w.heap.size, 2, none⟩ = some (.slice none 0 0) := HX.out.1.cell 2
          have z3 : wx.cell? ⟨w.heap.size + 1, 0, none⟩ = some (.bool false) := HX.out.2.1.cell 0
          have z4 : wx.cell? ⟨w.heap.size + 1, 1, none⟩ = some (.slice none 0 0) := HX.out.2.1.cell 1
          have z5 : wx.cell? ⟨w.heap.size + 1, 2, none⟩ = some (.slice none 0 0) := HX.out.2.1.cell 2
          have z6 : wx.cell? ⟨w.heap.size + 1 + 1, 0, none⟩ = some (.int .i64 0) := HX.out.2.2.1.cell 0
          have z7 : wx.cell? ⟨w.heap.size + 1 + 1, 1, none⟩ = some (.int .i64 0) := HX.out.2.2.1.cell 1
          have y0 := HX.out.1.frozen 0
          have y1 := HX.out.1.frozen 1
          have y2 := HX.out.1.frozen 2
          have y3 := HX.out.2.1.frozen 0
          have y4 := HX.out.2.1.frozen 1
          have y5 := HX.out.2.1.frozen 2
          have y6 : wx.frozen? ⟨w.heap.size + 1 + 1, 0, none⟩ = false := HX.out.2.2.1.frozen 0
          have y7 : wx.frozen? ⟨w.heap.size + 1 + 1, 1, none⟩ = false := HX.out.2.2.1.frozen 1
          have FB := Lib.hid HX.out.2.2.2
          go_wp2_with fail
          have hbl := (((((((FB.out.setCell (p := ⟨w.heap.size, 0, none⟩) (by simp) (.bool false)).setCell (p := ⟨w.heap.size, 1, none⟩) (by simp) (.slice none 0 0)).setCell (p := ⟨w.heap.size, 2, none⟩) (by simp) (.slice none 0 0)).setCell (p := ⟨w.heap.size + 1, 0, none⟩) (by simp) (.bool false)).setCell (p := ⟨w.heap.size + 1, 1, none⟩) (by simp) (.slice none 0 0)).setCell (p := ⟨w.heap.size + 1, 2, none⟩) (by simp) (.slice none 0 0)).setCell (p := ⟨w.heap.size + 1 + 1, 0, none⟩) (by simp; omega) (.int .i64 7)).setCell (p := ⟨w.heap.size + 1 + 1, 1, none⟩) (by simp; omega) (.int .i64 k)
          refine bodyPost_ret (v := .tuple #[.agg #[.bool false, .slice none 0 0, .slice none 0 0], .agg #[.bool false, .slice none 0 0, .slice none 0 0], .agg #[.int .i64 7, .int .i64 k]]) (by simp [results, Try.results14, go_sem, z0, z1, z2, z3, z4, z5, z6, z7]) rfl ⟨HFP.out _, ?_⟩
          exact hbl
        | true =>
          obtain ⟨x, rfl⟩ := Option.isSome_iff_exists.1 HBX2.out
          obtain ⟨y, rfl⟩ := Option.isSome_iff_exists.1 HBY2.out
          have HUS2 := Lib.hid (show uptoP false l (k + 1) = .ok ⟨s.some?, s.only, s.ps, if p.dir = 2 then s.a else s.a ++ [x]⟩ by
            rw [HUS.out, step_rule H1.out HX.out HY.out]
            by_cases h : p.dir = 2 <;> simp [h])
          have HUT2 := Lib.hid (show uptoP true l (k + 1) = .ok ⟨t.some?, t.only, t.ps, if p.dir = 1 then t.a else t.a ++ [y]⟩ by
            rw [HUT.out, step_rule H1.out HX.out HY.out]
            by_cases h : p.dir = 1 <;> simp [h])
          have HCX := Lib.hid (HCR5.out x rfl)
          have HCY := Lib.hid (HDR5.out y rfl)
          have d3 : W5.cell? ⟨wr.heap.size + 1, 3, none⟩ = some (.int .i64 p.dir) := HKP5.out.cell 3
          have hl5 := HKP5.out.lt
          have hs5 := HST5.out.sz
          clear HCR5 HDR5 HX HY HBX2 HBY2 HUS HUT HKI5
          go_upto_if 124 with fail
          go_cut [] (fun wx => ∃ va', RdSt B w W1.heap.size nm (l.take k) s.some? s.only (if p.dir = 2 then s.a else s.a ++ [x]) t.a s.ps t.ps va' vb vp vq Af nf cf wx ∧ Blk wx (wr.heap.size + 1) 40 #[.int .i64 p.kind, .string p.name, .slice A' n' c', .int .i64 p.dir, .bool p.left.start, .bool p.left.fin, .slice L1 a1 x1, .slice L2 a2 x2, .slice L3 a3 x3, .int .i64 p.left.cursor, .bool p.right.start, .bool p.right.fin, .slice R1 b1 y1, .slice R2 b2 y2, .slice R3 b3 y3, .int .i64 p.right.cursor] ∧ Blk wx wb.heap.size 59 #[v0, v1, v2, v3, v4, v5, v6] ∧ RuleC wx (Rows4 B (W1.heap.size + 5) va' vb vp vq) y [v0, v1, v2, v3, v4, v5, v6])
          case first =>
            by_cases hd2 : p.dir = 2
            · have hd : (p.dir != 2) = false := by rw [hd2]; rfl
              have HD2 := Lib.hid hd2
              clear hd2
              go_wp2_with fail
              go_meet
              refine ⟨va, ?_, HKP5.out, HV5.out, HCY.out⟩
              rw [if_pos HD2.out]
              exact HST5.out
            · have hd : (p.dir != 2) = true := by simpa using hd2
              have HD2 := Lib.hid hd2
              clear hd2
              have HU := HU5
              have HV := HV5
              have t0 : W5.cell? ⟨wa.heap.size, 0, none⟩ = some u0 := HU.out.cell 0
              have t1 : W5.cell? ⟨wa.heap.size, 1, none⟩ = some u1 := HU.out.cell 1
              have t2 : W5.cell? ⟨wa.heap.size, 2, none⟩ = some u2 := HU.out.cell 2
              have t3 : W5.cell? ⟨wa.heap.size, 3, none⟩ = some u3 := HU.out.cell 3
              have t4 : W5.cell? ⟨wa.heap.size, 4, none⟩ = some u4 := HU.out.cell 4
              have t5 : W5.cell? ⟨wa.heap.size, 5, none⟩ = some u5 := HU.out.cell 5
              have t6 : W5.cell? ⟨wa.heap.size, 6, none⟩ = some u6 := HU.out.cell 6
              have q0 : W5.cell? ⟨W1.heap.size + 1, 0, none⟩ = some va := HST5.out.v4.1.cell 0
              have hst6 := HST5.out.ry
              obtain ⟨⟨css, g1, g2, g3, g4⟩, _⟩ := hst6
              have G1 := Lib.hid g1
              have G2 := Lib.hid g2
              have G3 := Lib.hid g3
              have G4 := Lib.hid g4
              have HN := Lib.hid (Rd.new W5 59 7 1 [u0, u1, u2, u3, u4, u5, u6] rfl)
              have HO := Lib.hid (World.ownsRow.alloc g4 (.cells #[u0, u1, u2, u3, u4, u5, u6] 59))
              clear g1 g2 g3 g4
              go_wp2_with (at_builtin; refine wpList_append_rd _ rfl (.tmp 125) (.tmp 127) 53 rfl (W1.heap.size + 5) 59 j0 _ 7 112 Try.underlying53 hj hy0 hy1 hy2 rfl (by decide) _ _ _ rfl HO.out _ (some ⟨W5.heap.size, 0, none⟩) 1 1 [u0, u1, u2, u3, u4, u5, u6] rfl HN.out HC1.out (by simp only [maxLen]; omega) (by omega) (by simp; omega) ?_)
              intro v9 w9 happ
              have ho9 := happ.own
              obtain ⟨A9, k9, rfl, _⟩ := own_form ho9
              clear ho9
              have HST6 := Lib.hid (HST5.out.pushA G1.out G2.out G3.out G4.out HCX.out rfl happ)
              have hvl := HV5.out.lt
              have hx2 := (HST5.out.app G4.out (by decide) (by decide) (by decide) (by decide) happ).2.1
              have HKP6 := Lib.hid (blk_set_ne (g := W1.heap.size + 1) (i := 0) (u := .slice A9 (s.a.length + 1) k9) (blk_app (Blk.alloc HKP5.out _) HO.out (by decide) happ) (by omega))
              have HKA := Lib.hid ((keeps_pushA (vb := vb) (vp := vp) (vq := vq) (B := B) (by omega) G4.out happ).trans (rows_set (i := 0) (u := .slice A9 (s.a.length + 1) k9) (g := W1.heap.size + 1) (by omega) (by omega)))
              have hwb : wb.heap.size ≠ W1.heap.size + 1 := by omega
              have HBV : Hid (Blk (w9.setCell ⟨W1.heap.size + 1, 0, none⟩ (.slice A9 (s.a.length + 1) k9)) wb.heap.size 59 #[v0, v1, v2, v3, v4, v5, v6]) := Lib.hid (blk_set_ne ((happ.2.1.block _ (by simp; omega) (fun e => by have := HVA.out _ e.symm; omega)).trans (Blk.alloc HV5.out _)) hwb)
              have c9 : w9.cell? ⟨W1.heap.size + 1, 0, none⟩ = some va := hx2.1.cell 0
              have f9 := hx2.1.frozen 0
              clear happ hx2
              go_wp2_with fail
              go_meet
              refine ⟨_, ?_, HKP6.out, HBV.out, HCY.out.keep HKA.out⟩
              rw [if_neg HD2.out]
              exact HST6.out
          case rest =>
            obtain ⟨va', hst7, hkp7, hv7, hcy7⟩ := hcut
            have d4 : wc.cell? ⟨wr.heap.size + 1, 3, none⟩ = some (.int .i64 p.dir) := hkp7.cell 3
            have hl7 := hkp7.lt
            have hs7 := hst7.sz
            have hla : (if p.dir = 2 then s.a else s.a ++ [x]).length ≤ k + 1 := by
              by_cases h : p.dir = 2
              · rw [if_pos h]; omega
              · rw [if_neg h, List.length_append, List.length_singleton]; omega
            generalize hA1 : (if p.dir = 2 then s.a else s.a ++ [x]) = A1' at *
            have HST7 := Lib.hid hst7
            have HV := Lib.hid hv7
            have HCY7 := Lib.hid hcy7
            clear hA1 hst7 hkp7 hv7 hcy7 HST5 HKP5 HU5 HV5 HCX HCY d3
            by_cases hd1 : p.dir = 1
            · have hd : (p.dir != 1) = false := by rw [hd1]; rfl
              have HUT3 := Lib.hid (show uptoP true l (k + 1) = .ok ⟨t.some?, t.only, t.ps, t.a⟩ by rw [HUT2.out, if_pos hd1])
              clear hd1
              go_wp2_with fail
              refine ⟨⟨k + 1, nm, _, _, _, _, _, _, Af, nf, cf, hlt, by omega, by go_num, HUS2.out, HUT3.out, ?_, HST7.out.ry, HST7.out.v4, HST7.out.sz, hmb, HST7.out.res, HST7.out.set, hla, by dsimp only; omega, by dsimp only; omega, by dsimp only; omega⟩, by simp only [intOf]; omega⟩
              rw [take_snoc HP.out]
              exact EnvM.other HST7.out.env (by rw [H1.out]; decide)
            · have hd : (p.dir != 1) = true := by simpa using hd1
              have HUT3 := Lib.hid (show uptoP true l (k + 1) = .ok ⟨t.some?, t.only, t.ps, t.a ++ [y]⟩ by rw [HUT2.out, if_neg hd1])
              clear hd1
              have t0 : wc.cell? ⟨wb.heap.size, 0, none⟩ = some v0 := HV.out.cell 0
              have t1 : wc.cell? ⟨wb.heap.size, 1, none⟩ = some v1 := HV.out.cell 1
              have t2 : wc.cell? ⟨wb.heap.size, 2, none⟩ = some v2 := HV.out.cell 2
              have t3 : wc.cell? ⟨wb.heap.size, 3, none⟩ = some v3 := HV.out.cell 3
              have t4 : wc.cell? ⟨wb.heap.size, 4, none⟩ = some v4 := HV.out.cell 4
              have t5 : wc.cell? ⟨wb.heap.size, 5, none⟩ = some v5 := HV.out.cell 5
              have t6 : wc.cell? ⟨wb.heap.size, 6, none⟩ = some v6 := HV.out.cell 6
              have q0 : wc.cell? ⟨W1.heap.size + 2, 0, none⟩ = some vb := HST7.out.v4.2.1.cell 0
              have hst6 := HST7.out.ry
              obtain ⟨_, ⟨css, g1, g2, g3, g4⟩, _⟩ := hst6
              have G1 := Lib.hid g1
              have G2 := Lib.hid g2
              have G3 := Lib.hid g3
              have G4 := Lib.hid g4
              have HN := Lib.hid (Rd.new wc 59 7 1 [v0, v1, v2, v3, v4, v5, v6] rfl)
              have HO := Lib.hid (World.ownsRow.alloc g4 (.cells #[v0, v1, v2, v3, v4, v5, v6] 59))
              clear g1 g2 g3 g4
              go_wp2_with (at_builtin; refine wpList_append_rd _ rfl (.tmp 132) (.tmp 134) 53 rfl (W1.heap.size + 5) 59 j0 _ 7 112 Try.underlying53 hj hy0 hy1 hy2 rfl (by decide) _ _ _ rfl HO.out _ (some ⟨wc.heap.size, 0, none⟩) 1 1 [v0, v1, v2, v3, v4, v5, v6] rfl HN.out HD1.out (by simp only [maxLen]; omega) (by omega) (by simp; omega) ?_)
              intro v9 w9 happ
              have ho9 := happ.own
              obtain ⟨A9, k9, rfl, _⟩ := own_form ho9
              clear ho9
              have HST8 := Lib.hid (HST7.out.pushB G1.out G2.out G3.out G4.out HCY7.out rfl happ)
              have hx2 := (HST7.out.app G4.out (by decide) (by decide) (by decide) (by decide) happ).2.1
              have c9 : w9.cell? ⟨W1.heap.size + 2, 0, none⟩ = some vb := hx2.2.1.cell 0
              have f9 := hx2.2.1.frozen 0
              clear happ hx2
              go_wp2_with fail
              refine ⟨⟨k + 1, nm, _, _, _, _, _, _, Af, nf, cf, hlt, by omega, by go_num, HUS2.out, HUT3.out, ?_, HST8.out.ry, HST8.out.v4, HST8.out.sz, hmb, HST8.out.res, HST8.out.set, hla, by simp only [List.length_append, List.length_singleton]; omega, by dsimp only; omega, by dsimp only; omega⟩, by simp only [intOf]; omega⟩
              rw [take_snoc HP.out]
              exact EnvM.other HST8.out.env (by rw [H1.out]; decide)
    · obtain rfl : k = n := by omega
      have hst0 := upto_same hus hut
      have hrd1 := readyP_ok (back := false) HW0.out (by rw [HLEN.out]; exact hus)
      have hrd2 := readyP_ok (back := true) HW0.out (by rw [HLEN.out]; exact hut)
      rw [if_neg (by decide : ¬ (false = true))] at hrd1
      rw [if_pos rfl, ← hst0.1, ← hst0.2] at hrd2
      have hon := upto_only HALL.out false k s hus
      have hse : RdSt B w W1.heap.size nm (l.take k) s.some? s.only s.a t.a s.ps t.ps va vb vp vq Af nf cf wr := ⟨hBw, henv, hry, hv4, hsz, hmb, hres, hset⟩
      have HRD1 := Lib.hid hrd1
      have HRD2 := Lib.hid hrd2
      have HSE := Lib.hid hse
      clear henv hry hv4 hres hset hus hut hst0 HRF HR0 c0 c1 HL hmm hrd1 hrd2 hse HST
      go_wp2_with fail
      refine (syn_close B (W1.heap.size + 5) (W1.heap.size + 1) (W1.heap.size + 2) (W1.heap.size + 3) (W1.heap.size + 4) (place4 _ _ (by omega)) s.a t.a s.ps t.ps va vb vp vq wr hsz HSE.out.ry HSE.out.v4 (by omega) (by omega) (by omega) (by omega)).mono ?_
      rintro e wx ⟨rfl, vp', vq', hry, hv, hbut, hg1, hg2⟩
      have hst1 := HSE.out.close hry hv hbut hg1 hg2
      obtain ⟨Ap, kp, rfl, _⟩ := hst1.ry.2.2.1.form
      obtain ⟨Aq, kq, rfl, _⟩ := hst1.ry.2.2.2.1.form
      have hlp : (s.ps ++ pend s.a).length ≤ 2 * k + 1 := by rw [List.length_append]; cases s.a <;> simp [pend] <;> omega
      have hlq : (t.ps ++ pend t.a).length ≤ 2 * k + 1 := by rw [List.length_append]; cases t.a <;> simp [pend] <;> omega
      have z0 : wx.cell? ⟨W1.heap.size + 4, 0, none⟩ = some (.slice Aq (t.ps ++ pend t.a).length kq) := hst1.v4.2.2.2.cell 0
      generalize s.ps ++ pend s.a = P1 at *
      generalize t.ps ++ pend t.a = Q1 at *
      have HST1 := Lib.hid hst1
      clear hst1 hry hv hbut hg1 hg2 HSE
      go_wp2_with fail
      refine (HST1.out.reverse (by omega)).mono ?_
      rintro e w5 ⟨rfl, hst5⟩
      have hr5 : RdSt B w W1.heap.size nm (l.take k) s.some? s.only [] [] P1 Q1.reverse (.slice none 0 0) (.slice none 0 0) (.slice Ap P1.length kp) (.slice Aq Q1.reverse.length kq) Af nf cf w5 := by rw [List.length_reverse]; exact hst5
      have hrd := hr5.read (by unfold maxLen; omega) (by rw [List.length_reverse]; unfold maxLen; omega)
      rw [List.length_reverse] at hrd
      obtain ⟨hs5, hP5, hQ5⟩ := hrd
      obtain ⟨A5, n5, c5, hv5, hrx5, _⟩ := id hs5
      injection hv5 with h51 h52 h53
      subst h51 h52 h53
      have hrd5 : Rd w5.drew w5.heap.size 2 Af nf (spanCells s.only) := RdX.rd hrx5 (fun b _ h => h)
      have hnf : nf ≤ 1000 := by have := RdS.len (show RdS w5.drew w5.heap.size Af nf s.only from hrd5); omega
      have HST5 := Lib.hid hst5
      have HS5 := Lib.hid hs5
      have HP5 := Lib.hid hP5
      have HQ5 := Lib.hid hQ5
      have HR5 := Lib.hid hrd5
      clear hr5 hst5 hs5 hP5 hQ5 hrx5 hrd5 z0 HST1
      go_upto_region 38 with fail
      go_region_held_law (fun w' => w'.cell? ⟨w.heap.size, 0, none⟩ = some (.bool s.some?) ∧ w'.cell? ⟨w.heap.size, 1, none⟩ = some (.slice Af nf cf) ∧ w'.cell? ⟨W1.heap.size + 4, 0, none⟩ = some (.slice Aq Q1.length kq))
        (first
          | exact ⟨HST5.out.res.1.cell 0, HST5.out.res.1.cell 1, HST5.out.v4.2.2.2.cell 0⟩
          | exact ⟨HST5.out.drew.res.1.cell 0, HST5.out.drew.res.1.cell 1, HST5.out.drew.v4.2.2.2.cell 0⟩
          | exact ⟨HST6.out.res.1.cell 0, HST6.out.res.1.cell 1, HST6.out.v4.2.2.2.cell 0⟩
          | exact ⟨HA7.out.cell 0, HA7.out.cell 1, HC7.out.cell 0⟩)
        (first
          | (go_simp
             go_at_call 25
             refine (clone_set Af nf cf w5.heap.size s.only _ HR5.out hnf).mono ?_
             rintro e w6 ⟨⟨u, rfl, hu⟩, hb6⟩
             obtain ⟨A7, n7, c7, rfl, _⟩ := id hu
             have HU := Lib.hid hu
             have HB6 := Lib.hid hb6
             have HST6 := Lib.hid (HST5.out.drew.below hb6)
             clear hu hb6
             have b0 : w6.cell? ⟨w.heap.size + 1, 0, none⟩ = some (.bool false) := HST6.out.res.2.1.cell 0
             have b1 : w6.cell? ⟨w.heap.size + 1, 1, none⟩ = some (.slice none 0 0) := HST6.out.res.2.1.cell 1
             have b2 : w6.cell? ⟨w.heap.size + 1, 2, none⟩ = some (.slice none 0 0) := HST6.out.res.2.1.cell 2
             have b3 := HST6.out.res.2.1.frozen 0
             have b4 := HST6.out.res.2.1.frozen 1
             have b5 := HST6.out.res.2.1.frozen 2
             have HA7 := Lib.hid (blk_set_ne (g := w.heap.size + 1) (i := 2) (u := .slice Aq Q1.length kq) (blk_set_ne (g := w.heap.size + 1) (i := 1) (u := .slice A7 n7 c7) (blk_set_ne (g := w.heap.size + 1) (i := 0) (u := .bool s.some?) HST6.out.res.1 (by omega)) (by omega)) (by omega))
             have HC7 := Lib.hid (blk_set_ne (g := w.heap.size + 1) (i := 2) (u := .slice Aq Q1.length kq) (blk_set_ne (g := w.heap.size + 1) (i := 1) (u := .slice A7 n7 c7) (blk_set_ne (g := w.heap.size + 1) (i := 0) (u := .bool s.some?) HST6.out.v4.2.2.2 (by omega)) (by omega)) (by omega))
             dsimp only))
      all_goals
        have hx3 : Keeps w6 (X3 B w.heap.size) (((w6.setCell ⟨w.heap.size + 1, 0, none⟩ (.bool s.some?)).setCell ⟨w.heap.size + 1, 1, none⟩ (.slice A7 n7 c7)).setCell ⟨w.heap.size + 1, 2, none⟩ (.slice Aq Q1.length kq)) (X3 B w.heap.size) := ((x3_set (by omega) (by omega)).trans (x3_set (by omega) (by omega))).trans (x3_set (by omega) (by omega))
        have hk6 : Keeps w5 (X3 B w.heap.size) (((w6.setCell ⟨w.heap.size + 1, 0, none⟩ (.bool s.some?)).setCell ⟨w.heap.size + 1, 1, none⟩ (.slice A7 n7 c7)).setCell ⟨w.heap.size + 1, 2, none⟩ (.slice Aq Q1.length kq)) (X3 B w.heap.size) := (show Keeps w5 (X3 B w.heap.size) w6 (X3 B w.heap.size) from fun b hb hl => (Keeps.below (X := X3 B w.heap.size) (X' := X3 B w.heap.size) HB6.out (fun _ h _ => h)) b hb hl).trans hx3
        have hs5z := HST5.out.sz
        have hA : Blk (((w6.setCell ⟨w.heap.size + 1, 0, none⟩ (.bool s.some?)).setCell ⟨w.heap.size + 1, 1, none⟩ (.slice A7 n7 c7)).setCell ⟨w.heap.size + 1, 2, none⟩ (.slice Aq Q1.length kq)) w.heap.size 26 #[.bool s.some?, .slice Af nf cf, .slice none 0 0] := HA7.out
        have hB : Blk (((w6.setCell ⟨w.heap.size + 1, 0, none⟩ (.bool s.some?)).setCell ⟨w.heap.size + 1, 1, none⟩ (.slice A7 n7 c7)).setCell ⟨w.heap.size + 1, 2, none⟩ (.slice Aq Q1.length kq)) (w.heap.size + 1) 26 #[.bool s.some?, .slice A7 n7 c7, .slice Aq Q1.length kq] := ((HST6.out.res.2.1.put 0 (.bool s.some?)).put 1 (.slice A7 n7 c7)).put 2 (.slice Aq Q1.length kq)
        have hC : Blk (((w6.setCell ⟨w.heap.size + 1, 0, none⟩ (.bool s.some?)).setCell ⟨w.heap.size + 1, 1, none⟩ (.slice A7 n7 c7)).setCell ⟨w.heap.size + 1, 2, none⟩ (.slice Aq Q1.length kq)) (w.heap.size + 2) 29 #[.int .i64 0, .int .i64 0] := blk_set_ne (blk_set_ne (blk_set_ne HST6.out.res.2.2.1 (by omega)) (by omega)) (by omega)
        have hG : Blk (((w6.setCell ⟨w.heap.size + 1, 0, none⟩ (.bool s.some?)).setCell ⟨w.heap.size + 1, 1, none⟩ (.slice A7 n7 c7)).setCell ⟨w.heap.size + 1, 2, none⟩ (.slice Aq Q1.length kq)) (W1.heap.size + 3) 24 #[.slice Ap P1.length kp] := blk_set_ne (blk_set_ne (blk_set_ne HST6.out.v4.2.2.1 (by omega)) (by omega)) (by omega)
        have hL : Below w.heap.size w (((w6.setCell ⟨w.heap.size + 1, 0, none⟩ (.bool s.some?)).setCell ⟨w.heap.size + 1, 1, none⟩ (.slice A7 n7 c7)).setCell ⟨w.heap.size + 1, 2, none⟩ (.slice Aq Q1.length kq)) := ((HST6.out.res.2.2.2.setCell (by simp) _).setCell (by simp) _).setCell (by simp) _
        have hs7 := HS5.out.keep hk6
        have hP7 := HP5.out.keep hk6
        have hQ7 := HQ5.out.keep hk6
        have hu7 := (HU.out.keep (Keeps.refl (X' := X3 B w.heap.size) (fun b (hb : w5.heap.size ≤ b) => .inr (by omega)))).keep hx3
        clear hx3 hk6 HA7 HC7 HU HB6 HST6 HST5 HS5 HP5 HQ5 HR5 b0 b1 b2 b3 b4 b5
        generalize ((w6.setCell ⟨w.heap.size + 1, 0, none⟩ (.bool s.some?)).setCell ⟨w.heap.size + 1, 1, none⟩ (.slice A7 n7 c7)).setCell ⟨w.heap.size + 1, 2, none⟩ (.slice Aq Q1.length kq) = W7 at *
        have g0 : W7.cell? ⟨W1.heap.size + 3, 0, none⟩ = some (.slice Ap P1.length kp) := hG.cell 0
        have g1 : W7.cell? ⟨w.heap.size, 2, none⟩ = some (.slice none 0 0) := hA.cell 2
        have g2 := hA.frozen 2
        have HA := Lib.hid (hA.put 2 (.slice Ap P1.length kp))
        have HB := Lib.hid (blk_set_ne (g := w.heap.size) (i := 2) (u := .slice Ap P1.length kp) hB (by omega))
        have HC := Lib.hid (blk_set_ne (g := w.heap.size) (i := 2) (u := .slice Ap P1.length kp) hC (by omega))
        have HL := Lib.hid (hL.setCell (p := ⟨w.heap.size, 2, none⟩) (by simp) (.slice Ap P1.length kp))
        have hx8 : Keeps W7 (X3 B w.heap.size) (W7.setCell ⟨w.heap.size, 2, none⟩ (.slice Ap P1.length kp)) (X3 B w.heap.size) := x3_set (by omega) (by omega)
        have HS8 := Lib.hid (hs7.keep hx8)
        have HP8 := Lib.hid (hP7.keep hx8)
        have HQ8 := Lib.hid (hQ7.keep hx8)
        have HU8 := Lib.hid (hu7.keep hx8)
        clear hA hB hC hG hL hs7 hP7 hQ7 hu7 hx8
        go_upto_region 40 with fail
        have hA := HA.out
        have hB := HB.out
        have hC := HC.out
        have hL := HL.out
        have hs8 := HS8.out
        have hp8 := HP8.out
        have hq8 := HQ8.out
        have hu8 := HU8.out
        clear HA HB HC HL HS8 HP8 HQ8 HU8 g0 g1 g2
        generalize W7.setCell ⟨w.heap.size, 2, none⟩ (.slice Ap P1.length kp) = W8 at *
        have z0 : W8.cell? ⟨w.heap.size, 0, none⟩ = some (.bool s.some?) := hA.cell 0
        have z1 : W8.cell? ⟨w.heap.size, 1, none⟩ = some (.slice Af nf cf) := hA.cell 1
        have z2 : W8.cell? ⟨w.heap.size, 2, none⟩ = some (.slice Ap P1.length kp) := hA.cell 2
        have z3 : W8.cell? ⟨w.heap.size + 1, 0, none⟩ = some (.bool s.some?) := hB.cell 0
        have z4 : W8.cell? ⟨w.heap.size + 1, 1, none⟩ = some (.slice A7 n7 c7) := hB.cell 1
        have z5 : W8.cell? ⟨w.heap.size + 1, 2, none⟩ = some (.slice Aq Q1.length kq) := hB.cell 2
        have z6 : W8.cell? ⟨w.heap.size + 1 + 1, 0, none⟩ = some (.int .i64 0) := hC.cell 0
        have z7 : W8.cell? ⟨w.heap.size + 1 + 1, 1, none⟩ = some (.int .i64 0) := hC.cell 1
        have y0 := hA.frozen 0
        have y1 := hA.frozen 1
        have y2 := hA.frozen 2
        have y3 := hB.frozen 0
        have y4 := hB.frozen 1
        have y5 := hB.frozen 2
        have y6 : W8.frozen? ⟨w.heap.size + 1 + 1, 0, none⟩ = false := hC.frozen 0
        have y7 : W8.frozen? ⟨w.heap.size + 1 + 1, 1, none⟩ = false := hC.frozen 1
        have FB := Lib.hid hL
        have HS8 := Lib.hid hs8
        have HP8 := Lib.hid hp8
        have HQ8 := Lib.hid hq8
        have HU8 := Lib.hid hu8
        clear hA hB hC hL hs8 hp8 hq8 hu8
        go_region
        all_goals
          go_wp2_with fail
          have hbl := (((((((FB.out.setCell (p := ⟨w.heap.size, 0, none⟩) (by simp) (.bool s.some?)).setCell (p := ⟨w.heap.size, 1, none⟩) (by simp) (.slice Af nf cf)).setCell (p := ⟨w.heap.size, 2, none⟩) (by simp) (.slice Ap P1.length kp)).setCell (p := ⟨w.heap.size + 1, 0, none⟩) (by simp) (.bool s.some?)).setCell (p := ⟨w.heap.size + 1, 1, none⟩) (by simp) (.slice A7 n7 c7)).setCell (p := ⟨w.heap.size + 1, 2, none⟩) (by simp) (.slice Aq Q1.length kq)).setCell (p := ⟨w.heap.size + 1 + 1, 0, none⟩) (by simp; omega) (.int .i64 0)).setCell (p := ⟨w.heap.size + 1 + 1, 1, none⟩) (by simp; omega) (.int .i64 0)
          have hkf : Keeps W8 (X3 B w.heap.size) ((((((((W8.setCell ⟨w.heap.size, 0, none⟩ (.bool s.some?)).setCell ⟨w.heap.size, 1, none⟩ (.slice Af nf cf)).setCell ⟨w.heap.size, 2, none⟩ (.slice Ap P1.length kp)).setCell ⟨w.heap.size + 1, 0, none⟩ (.bool s.some?)).setCell ⟨w.heap.size + 1, 1, none⟩ (.slice A7 n7 c7)).setCell ⟨w.heap.size + 1, 2, none⟩ (.slice Aq Q1.length kq)).setCell ⟨w.heap.size + 1 + 1, 0, none⟩ (.int .i64 0)).setCell ⟨w.heap.size + 1 + 1, 1, none⟩ (.int .i64 0)) (X3 B w.heap.size) :=
            (((((((x3_set (by omega) (by omega)).trans (x3_set (by omega) (by omega))).trans (x3_set (by omega) (by omega))).trans (x3_set (by omega) (by omega))).trans (x3_set (by omega) (by omega))).trans (x3_set (by omega) (by omega))).trans (x3_set (by omega) (by omega))).trans (x3_set (by omega) (by omega))
          have HFP := Lib.hid (fin_post (B := B) (lo := w.heap.size) HRD1.out HRD2.out HS8.out HP8.out HU8.out HQ8.out (hkf.trans (Keeps.below (Below.refl _ _).drew (fun _ h _ => h.imp id (fun h => by omega)))))
          have HBL := Lib.hid hbl.drew
          clear hbl hkf
          refine bodyPost_ret (v := .tuple #[.agg #[.bool s.some?, .slice Af nf cf, .slice Ap P1.length kp], .agg #[.bool s.some?, .slice A7 n7 c7, .slice Aq Q1.length kq], .agg #[.int .i64 0, .int .i64 0]]) (by simp [results, Try.results14, go_sem, z0, z1, z2, z3, z4, z5, z6, z7]) rfl ⟨?_, ?_⟩
          · exact HFP.out
          · exact HBL.out

end Go.Proofs.Ythcjiainpaebfaa
