/- scriptref6.Ready of a file that is right. -/
import Derived.Test.YthcjiainpaebfaaRefRule
namespace Go.Proofs.Ythcjiainpaebfaa
open Go.RowKit Go.Maps

theorem zeroStr (w : World) : (zeroValue 9).run Try.prog w = .ok (.string ⟨#[]⟩) w := by kernel_rfl

set_option maxRecDepth 100000 in
set_option maxHeartbeats 25600000 in
theorem ref_ready_ok (B : Nat) (A : Option Addr) (n c : Nat) (l : List PartD) (back : Bool) (w : World) (hn : n ≤ maxLen) (hBw : B ≤ w.heap.size) (hl : RdP w B A n l) (hw : (fileP l).1 = 0) :
    Calls Try.prog 7 #[.slice A n c, .bool back] w fun e w' => RfPost B w.heap.size w' l back e ∧ Below w.heap.size w w' := by
  have hrf : ∀ w', Below w.heap.size w w' → Calls Try.prog 15 #[.slice A n c] w' fun e w2 => e = .returned (.agg #[.int .i64 (fileP l).1, .int .i64 (fileP l).2]) ∧ Below w'.heap.size w' w2 :=
    fun w' hb => ref_file A n c l w' hn (RdP.weak (weak_of (hb.mono hBw) (Nat.le_trans hBw hb.size)) hl)
  obtain ⟨h200, hfp, hall⟩ := file_ok hw
  obtain ⟨i0, hi, hz0, hz1, hz2⟩ := info_parts infoPassB
  obtain ⟨j0, hj, hy0, hy1, hy2⟩ := info_parts infoRuleB
  have hn200 : n ≤ 200 := by rw [← RdL.len hl]; exact h200
  rw [hfp] at hrf
  have HW0 := Lib.hid hw
  have HN := Lib.hid hn
  have HALL := Lib.hid hall
  have HLEN := Lib.hid (RdL.len hl)
  have HL := Lib.hid hl
  have HRF := Lib.hid hrf
  have HR0 := Lib.hid (show Blk ((w.alloc (.cells zeroScript 26)).alloc (.cells #[.int .i64 0, .int .i64 0] 29)) w.heap.size 26 zeroScript ∧ Blk ((w.alloc (.cells zeroScript 26)).alloc (.cells #[.int .i64 0, .int .i64 0] 29)) (w.heap.size + 1) 29 #[.int .i64 0, .int .i64 0] ∧ Below w.heap.size w ((w.alloc (.cells zeroScript 26)).alloc (.cells #[.int .i64 0, .int .i64 0] 29)) from
    ⟨Blk.alloc (Blk.new _ _ _) _, by simpa using Blk.new (w.alloc (.cells zeroScript 26)) 29 #[.int .i64 0, .int .i64 0], ((Below.refl _ _).alloc (Nat.le_refl _) _).alloc (by simp) _⟩)
  clear hw hfp hall h200 hl hrf hn
  go_enter Try.func7, Try.ntmps7
  go_wp2_with fail
  refine (HRF.out _ HR0.out.2.2).mono ?_
  rintro e w1 ⟨rfl, hb1⟩
  have hb2 : Below w1.heap.size w1 ((w1.alloc (.cells #[.int .i64 0, .int .i64 0] 29)).alloc (.cells zeroScript 26)) := ((Below.refl _ _).alloc (Nat.le_refl _) _).alloc (by simp) _
  have hx := Blk.below (Blk.below HR0.out.1 hb1 HR0.out.1.lt) hb2 (Nat.lt_of_lt_of_le HR0.out.1.lt hb1.size)
  have hy := Blk.below (Blk.below HR0.out.2.1 hb1 HR0.out.2.1.lt) hb2 (Nat.lt_of_lt_of_le HR0.out.2.1.lt hb1.size)
  have hz := Blk.new (w1.alloc (.cells #[.int .i64 0, .int .i64 0] 29)) 26 zeroScript
  rw [show (w1.alloc (.cells #[.int .i64 0, .int .i64 0] 29)).heap.size = w1.heap.size + 1 by simp] at hz
  have HST0 := Lib.hid (show RfAt w (w1.heap.size + 1) (.bool false) (.slice none 0 0) (.slice none 0 0) _ from ⟨hx, hy, hz, (HR0.out.2.2.trans (hb1.mono HR0.out.2.2.size)).trans (hb2.mono (Nat.le_trans HR0.out.2.2.size hb1.size))⟩)
  have hlo : w.heap.size + 2 ≤ w1.heap.size + 1 := by have := HR0.out.2.1.lt; have := hb1.size; omega
  clear hb1 hb2 hx hy hz
  go_wp2_with fail
  go_loopw [8, 30] (RfRel B w (w1.heap.size + 1) back l n) (fun _ i _ => n - (intOf i).toNat)
  case atStart =>
    exact ⟨0, ⟨false, [], [], []⟩, false, _, none, 0, 0, Nat.zero_le _, rfl, rfl, rfl, HST0.out, by simp, hlo, ⟨none, 0, 0, rfl, ⟨rfl, fun h => absurd h (Nat.lt_irrefl 0)⟩, Nat.zero_le _⟩, .inl ⟨rfl, rfl, RySt.nil _ _ _⟩, Nat.le_refl _, Nat.le_refl _⟩
  case round =>
    rename_i Q' K HK
    obtain ⟨k, s, op, vp, Af, nf, cf, hk, rfl, rfl, hus, hat, hsz, _, hset, hps, la, lp⟩ := hrel
    by_cases hlt : k < n
    · clear HK
      obtain ⟨p, hp⟩ : ∃ z, l[k]? = some z := ⟨_, List.getElem?_eq_getElem (by rw [HLEN.out]; exact hlt)⟩
      by_cases hk2 : p.kind = 2
      · exact rf_rule B n c k nf cf A Af l back op w w1 wr s vp K hBw hn200 HW0 HN HALL HLEN HL hlo hus hat hsz hset hps la lp hk hlt p hp hk2
      have HK2 := Lib.hid hk2
      clear hk2
      have hpk := part_kinds (HALL.out p (List.mem_of_getElem? hp))
      have hb := hat.2.2.2
      obtain ⟨b, off, A', n', c', L1, L2, L3, R1, R2, R3, a1, a2, a3, x1, x2, x3, b1, b2, b3, y1, y2, y3, rfl, hbb, ⟨f0, f1, f2, f3, f4, f5, f6, f7, f8, f9, f10, f11, f12, f13, f14, f15⟩, hs, hn', l1, l2, l3, la1, la2, la3, r1, r2, r3, ra1, ra2, ra3, cl, cr, hm⟩ := part_at HL.out hp
      have d0 := (hb.cell (p := ⟨b, off + k * 16, none⟩) (Nat.lt_of_lt_of_le hbb hBw)).trans f0
      have d1 := (hb.cell (p := ⟨b, off + k * 16 + 1, none⟩) (Nat.lt_of_lt_of_le hbb hBw)).trans f1
      have d2 := (hb.cell (p := ⟨b, off + k * 16 + 2, none⟩) (Nat.lt_of_lt_of_le hbb hBw)).trans f2
      have d3 := (hb.cell (p := ⟨b, off + k * 16 + 3, none⟩) (Nat.lt_of_lt_of_le hbb hBw)).trans f3
      have d4 := (hb.cell (p := ⟨b, off + k * 16 + 4, none⟩) (Nat.lt_of_lt_of_le hbb hBw)).trans f4
      have d5 := (hb.cell (p := ⟨b, off + k * 16 + 5, none⟩) (Nat.lt_of_lt_of_le hbb hBw)).trans f5
      have d6 := (hb.cell (p := ⟨b, off + k * 16 + 6, none⟩) (Nat.lt_of_lt_of_le hbb hBw)).trans f6
      have d7 := (hb.cell (p := ⟨b, off + k * 16 + 7, none⟩) (Nat.lt_of_lt_of_le hbb hBw)).trans f7
      have d8 := (hb.cell (p := ⟨b, off + k * 16 + 8, none⟩) (Nat.lt_of_lt_of_le hbb hBw)).trans f8
      have d9 := (hb.cell (p := ⟨b, off + k * 16 + 9, none⟩) (Nat.lt_of_lt_of_le hbb hBw)).trans f9
      have d10 := (hb.cell (p := ⟨b, off + k * 16 + 10, none⟩) (Nat.lt_of_lt_of_le hbb hBw)).trans f10
      have d11 := (hb.cell (p := ⟨b, off + k * 16 + 11, none⟩) (Nat.lt_of_lt_of_le hbb hBw)).trans f11
      have d12 := (hb.cell (p := ⟨b, off + k * 16 + 12, none⟩) (Nat.lt_of_lt_of_le hbb hBw)).trans f12
      have d13 := (hb.cell (p := ⟨b, off + k * 16 + 13, none⟩) (Nat.lt_of_lt_of_le hbb hBw)).trans f13
      have d14 := (hb.cell (p := ⟨b, off + k * 16 + 14, none⟩) (Nat.lt_of_lt_of_le hbb hBw)).trans f14
      have d15 := (hb.cell (p := ⟨b, off + k * 16 + 15, none⟩) (Nat.lt_of_lt_of_le hbb hBw)).trans f15
      clear f0 f1 f2 f3 f4 f5 f6 f7 f8 f9 f10 f11 f12 f13 f14 f15
      have HAT := Lib.hid (hat.alloc (.cells #[.int .i64 p.kind, .string p.name, .slice A' n' c', .int .i64 p.dir, .bool p.left.start, .bool p.left.fin, .slice L1 a1 x1, .slice L2 a2 x2, .slice L3 a3 x3, .int .i64 p.left.cursor, .bool p.right.start, .bool p.right.fin, .slice R1 b1 y1, .slice R2 b2 y2, .slice R3 b3 y3, .int .i64 p.right.cursor] 40))
      have HPS := Lib.hid (hps.below ((Below.refl wr.heap.size wr).alloc (Nat.le_refl _) (.cells #[.int .i64 p.kind, .string p.name, .slice A' n' c', .int .i64 p.dir, .bool p.left.start, .bool p.left.fin, .slice L1 a1 x1, .slice L2 a2 x2, .slice L3 a3 x3, .int .i64 p.left.cursor, .bool p.right.start, .bool p.right.fin, .slice R1 b1 y1, .slice R2 b2 y2, .slice R3 b3 y3, .int .i64 p.right.cursor] 40)))
      have HKP := Lib.hid (Blk.new wr 40 #[.int .i64 p.kind, .string p.name, .slice A' n' c', .int .i64 p.dir, .bool p.left.start, .bool p.left.fin, .slice L1 a1 x1, .slice L2 a2 x2, .slice L3 a3 x3, .int .i64 p.left.cursor, .bool p.right.start, .bool p.right.fin, .slice R1 b1 y1, .slice R2 b2 y2, .slice R3 b3 y3, .int .i64 p.right.cursor])
      have HUS := Lib.hid (uptoP_step hus hp)
      have HPK := Lib.hid hpk
      have HP0 := Lib.hid (HALL.out p (List.mem_of_getElem? hp))
      have HSS := Lib.hid hs
      have HLS := Lib.hid (And.intro l1 (And.intro l2 (And.intro l3 (And.intro r1 (And.intro r2 r3)))))
      clear hat hps hus hp hpk hs hb
      go_upto_block 2 with fail
      have hs2 : (wr.alloc (.cells #[.int .i64 p.kind, .string p.name, .slice A' n' c', .int .i64 p.dir, .bool p.left.start, .bool p.left.fin, .slice L1 a1 x1, .slice L2 a2 x2, .slice L3 a3 x3, .int .i64 p.left.cursor, .bool p.right.start, .bool p.right.fin, .slice R1 b1 y1, .slice R2 b2 y2, .slice R3 b3 y3, .int .i64 p.right.cursor] 40)).heap.size = wr.heap.size + 1 := by simp
      clear l1 l2 l3 la1 la2 la3 r1 r2 r3 ra1 ra2 ra3 cl cr
      clear d0 d1 d2 d3 d4 d5 d6 d7 d8 d9 d10 d11 d12 d13 d14 d15 HRF HST0 HR0
      generalize (wr.alloc (.cells #[.int .i64 p.kind, .string p.name, .slice A' n' c', .int .i64 p.dir, .bool p.left.start, .bool p.left.fin, .slice L1 a1 x1, .slice L2 a2 x2, .slice L3 a3 x3, .int .i64 p.left.cursor, .bool p.right.start, .bool p.right.fin, .slice R1 b1 y1, .slice R2 b2 y2, .slice R3 b3 y3, .int .i64 p.right.cursor] 40)) = W2 at *
      have e0 : W2.cell? ⟨wr.heap.size, 0, none⟩ = some (.int .i64 p.kind) := HKP.out.cell 0
      have e1 : W2.cell? ⟨wr.heap.size, 1, none⟩ = some (.string p.name) := HKP.out.cell 1
      have e2 : W2.cell? ⟨wr.heap.size, 2, none⟩ = some (.slice A' n' c') := HKP.out.cell 2
      have hkk := HPK.out
      clear HPK
      rcases hkk with ⟨h1, h2, h3⟩ | ⟨h1, h3⟩ | ⟨h1, h2⟩ | ⟨h1, hr⟩
      · -- a name
        have q1 : (p.kind == 1) = true := by rw [h1]; rfl
        have H1 := Lib.hid h1
        have hlk0 := ref_look (some ⟨b, off, none⟩) n c l k p.name W2 B (Nat.le_trans hBw HAT.out.2.2.2.size) HN.out (by omega) (RdP.weak (weak_of (HAT.out.2.2.2.mono hBw) (Nat.le_refl _)) HL.out)
        have HLK := Lib.hid hlk0
        clear h1 h2 h3 hlk0
        cases hlk : lookP (l.take k) p.name with
        | some x =>
          have HFP := Lib.hid (rf_fail (B := B) (lo := w.heap.size) (er := 7) (back := back) HW0.out (by rw [HLEN.out]; exact hlt) (HUS.out.trans (step_name_in H1.out hlk)))
          have HK := Lib.hid hlk
          clear hlk
          go_wp2_with fail
          refine HLK.out.mono ?_
          rintro e wx ⟨hpost, rfl⟩
          rw [HK.out] at hpost
          obtain ⟨u, rfl, _⟩ := hpost
          have z0 : W2.cell? ⟨w.heap.size, 0, none⟩ = some (.bool false) := HAT.out.1.cell 0
          have z1 : W2.cell? ⟨w.heap.size, 1, none⟩ = some (.slice none 0 0) := HAT.out.1.cell 1
          have z2 : W2.cell? ⟨w.heap.size, 2, none⟩ = some (.slice none 0 0) := HAT.out.1.cell 2
          have z3 : W2.cell? ⟨w.heap.size + 1, 0, none⟩ = some (.int .i64 0) := HAT.out.2.1.cell 0
          have z4 : W2.cell? ⟨w.heap.size + 1, 1, none⟩ = some (.int .i64 0) := HAT.out.2.1.cell 1
          have y0 := HAT.out.1.frozen 0
          have y1 := HAT.out.1.frozen 1
          have y2 := HAT.out.1.frozen 2
          have y3 := HAT.out.2.1.frozen 0
          have y4 := HAT.out.2.1.frozen 1
          have FB := Lib.hid HAT.out.2.2.2
          go_wp2_with fail
          have hbl := ((((FB.out.setCell (p := ⟨w.heap.size, 0, none⟩) (by simp) (.bool false)).setCell (p := ⟨w.heap.size, 1, none⟩) (by simp) (.slice none 0 0)).setCell (p := ⟨w.heap.size, 2, none⟩) (by simp) (.slice none 0 0)).setCell (p := ⟨w.heap.size + 1, 0, none⟩) (by simp) (.int .i64 7)).setCell (p := ⟨w.heap.size + 1, 1, none⟩) (by simp) (.int .i64 k)
          refine bodyPost_ret (v := .tuple #[.agg #[.bool false, .slice none 0 0, .slice none 0 0], .agg #[.int .i64 7, .int .i64 k]]) (by simp [results, Try.results7, go_sem, z0, z1, z2, z3, z4]) rfl ⟨HFP.out _, ?_⟩
          exact hbl
        | none =>
          have HUS2 := Lib.hid (HUS.out.trans (step_name_new H1.out hlk))
          have HK := Lib.hid hlk
          clear hlk
          go_wp2_with fail
          refine HLK.out.mono ?_
          rintro e wx ⟨hpost, rfl⟩
          rw [HK.out] at hpost
          obtain rfl := hpost
          go_wp2_with fail
          exact ⟨⟨k + 1, s, op, vp, Af, nf, cf, hlt, by go_num, rfl, HUS2.out, HAT.out, by omega, hlo, hset, HPS.out, by omega, by omega⟩, by simp only [intOf]; omega⟩
      · -- a filter
        have q1 : (p.kind == 1) = false := by rw [h1]; rfl
        have q3 : (p.kind == 3) = true := by rw [h1]; rfl
        have H1 := Lib.hid h1
        have hgt := HAT.out.2.2.1.lt
        have x0 : W2.cell? ⟨w1.heap.size + 1, 0, none⟩ = some (.bool s.some?) := HAT.out.2.2.1.cell 0
        clear h1 h3
        cases hso : s.some? with
        | true =>
          rw [hso] at x0
          have HFP := Lib.hid (rf_fail (B := B) (lo := w.heap.size) (er := 5) (back := back) HW0.out (by rw [HLEN.out]; exact hlt) (HUS.out.trans (step_filter_again H1.out hso)))
          have HSO := Lib.hid hso
          clear hso
          have z0 : W2.cell? ⟨w.heap.size, 0, none⟩ = some (.bool false) := HAT.out.1.cell 0
          have z1 : W2.cell? ⟨w.heap.size, 1, none⟩ = some (.slice none 0 0) := HAT.out.1.cell 1
          have z2 : W2.cell? ⟨w.heap.size, 2, none⟩ = some (.slice none 0 0) := HAT.out.1.cell 2
          have z3 : W2.cell? ⟨w.heap.size + 1, 0, none⟩ = some (.int .i64 0) := HAT.out.2.1.cell 0
          have z4 : W2.cell? ⟨w.heap.size + 1, 1, none⟩ = some (.int .i64 0) := HAT.out.2.1.cell 1
          have y0 := HAT.out.1.frozen 0
          have y1 := HAT.out.1.frozen 1
          have y2 := HAT.out.1.frozen 2
          have y3 := HAT.out.2.1.frozen 0
          have y4 := HAT.out.2.1.frozen 1
          have FB := Lib.hid HAT.out.2.2.2
          go_wp2_with fail
          have hbl := ((((FB.out.setCell (p := ⟨w.heap.size, 0, none⟩) (by simp) (.bool false)).setCell (p := ⟨w.heap.size, 1, none⟩) (by simp) (.slice none 0 0)).setCell (p := ⟨w.heap.size, 2, none⟩) (by simp) (.slice none 0 0)).setCell (p := ⟨w.heap.size + 1, 0, none⟩) (by simp) (.int .i64 5)).setCell (p := ⟨w.heap.size + 1, 1, none⟩) (by simp) (.int .i64 k)
          refine bodyPost_ret (v := .tuple #[.agg #[.bool false, .slice none 0 0, .slice none 0 0], .agg #[.int .i64 5, .int .i64 k]]) (by simp [results, Try.results7, go_sem, z0, z1, z2, z3, z4]) rfl ⟨HFP.out _, ?_⟩
          exact hbl
        | false =>
          rw [hso] at x0
          have HUS2 := Lib.hid (HUS.out.trans (step_filter H1.out hso))
          have x1 : W2.cell? ⟨w1.heap.size + 1, 1, none⟩ = some (.slice Af nf cf) := HAT.out.2.2.1.cell 1
          have f0 := HAT.out.2.2.1.frozen 0
          have f1 := HAT.out.2.2.1.frozen 1
          have HSO := Lib.hid hso
          have hnw : ¬ w1.heap.size + 1 = wr.heap.size := by omega
          clear hso
          go_upto_region 29 with fail
          go_region
          all_goals
            go_wp2_with fail
            exact ⟨⟨k + 1, _, op, vp, A', n', c', hlt, by go_num, rfl, HUS2.out, (HAT.out.set01 hlo (.bool true) (.slice A' n' c')).below (Below.refl _ _).drew, by simp; omega, hlo, ⟨A', n', c', rfl, RdX.of_rd HSS.out hBw (fun _ h => h), hn'⟩, ((HPS.out.set (by omega) (by omega)).set (by omega) (by omega)).below (Below.refl _ _).drew, by dsimp only; omega, by dsimp only; omega⟩, by simp only [intOf]; omega⟩
      · -- a pass
        have q1 : (p.kind == 1) = false := by rw [h1]; rfl
        have q3 : (p.kind == 3) = false := by rw [h1]; rfl
        have q4 : (p.kind == 4) = true := by rw [h1]; rfl
        have HUS2 := Lib.hid (HUS.out.trans (step_pass h1))
        have HPB := Lib.hid h2
        have HM2 := Lib.hid hm
        clear h1 h2
        go_upto_if 138 with fail
        go_cut [13] (fun s13 wx => s13 = .string (if back = true then inverseP p.name else p.name) ∧ Below W2.heap.size W2 wx)
        case first =>
          cases back
          · go_wp2_with fail
            go_meet
            exact ⟨rfl, Below.refl _ _⟩
          · have k1 : keyOf Try.prog 9 (.string ⟨#[117, 112, 112, 101, 114]⟩) = some (keyL nmUpper) := key_of (by decide)
            have k2 : keyOf Try.prog 9 (.string ⟨#[108, 111, 119, 101, 114]⟩) = some (keyL nmLower) := key_of (by decide)
            have k3 : keyOf Try.prog 9 (.string ⟨#[110, 117, 108, 108]⟩) = some (keyL nmNull) := key_of (by decide)
            have k4 : keyOf Try.prog 9 (.string ⟨#[114, 101, 109, 111, 118, 101]⟩) = some (keyL nmRemove) := key_of (by decide)
            have K1 := Lib.hid k1
            have K2 := Lib.hid k2
            have K3 := Lib.hid k3
            have K4 := Lib.hid k4
            have ho0 := World.ownsMap_made (H := Value) W2 Try.prog 9 Raw
            rw [hs2] at ho0
            have HO0 := Lib.hid ho0
            clear ho0
            have hmm := @run_makeMap Try.prog
            clear k1 k2 k3 k4
            go_wp2_with (first
              | (at_lookup; refine wpList_look_raw rfl (.tmp 140) (.tmp 141) 52 9 rfl Try.underlying52 (z := .string ⟨#[]⟩) (zeroStr _) (wr.heap.size + 1) 4 invMap rfl HO4.out p.name rfl HM2.out (.string (inverseP p.name)) (inv_at HPB.out _) ?_)
              | (refine wpList_insert_own _ rfl (.tmp 139) _ _ 52 rfl 9 9 key_law Try.underlying52 Raw (wr.heap.size + 1) 0 _ rfl HO0.out (by unfold maxLen; omega) _ _ _ rfl rfl K1.out (.held (.string nmLower)) [] rfl ?_; intro w3 hown hgrow; have HO1 := Lib.hid hown; have HG1 := Lib.hid hgrow; clear hown hgrow HO0)
              | (refine wpList_insert_own _ rfl (.tmp 139) _ _ 52 rfl 9 9 key_law Try.underlying52 Raw (wr.heap.size + 1) 1 _ rfl HO1.out (by unfold maxLen; omega) _ _ _ rfl rfl K2.out (.held (.string nmUpper)) [] rfl ?_; intro w4 hown hgrow; have HO2 := Lib.hid hown; have HG2 := Lib.hid hgrow; clear hown hgrow HO1)
              | (refine wpList_insert_own _ rfl (.tmp 139) _ _ 52 rfl 9 9 key_law Try.underlying52 Raw (wr.heap.size + 1) 2 _ rfl HO2.out (by unfold maxLen; omega) _ _ _ rfl rfl K3.out (.held (.string nmNull)) [] rfl ?_; intro w5 hown hgrow; have HO3 := Lib.hid hown; have HG3 := Lib.hid hgrow; clear hown hgrow HO2)
              | (refine wpList_insert_own _ rfl (.tmp 139) _ _ 52 rfl 9 9 key_law Try.underlying52 Raw (wr.heap.size + 1) 3 _ rfl HO3.out (by unfold maxLen; omega) _ _ _ rfl rfl K4.out (.held (.string nmNull)) [] rfl ?_; intro w6 hown hgrow; have HO4 := Lib.hid hown; have HG4 := Lib.hid hgrow; clear hown hgrow HO3))
            go_meet
            refine ⟨rfl, ?_⟩
            have gb : ∀ {u v : World}, u.grownBy v (some (wr.heap.size + 1)) → Below W2.heap.size W2 u → Below W2.heap.size W2 v := fun hg hb => hb.grown hg hb.size (fun k e => by injection e with e; omega)
            exact gb HG4.out (gb HG3.out (gb HG2.out (gb HG1.out ((Below.refl _ _).alloc (Nat.le_refl _) _))))
        case rest =>
          obtain ⟨rfl, hbc⟩ := hcut
          have hatc := HAT.out.below hbc
          have hcl := (HPS.out.below hbc).shut (by unfold maxLen; omega)
          have hcs := hbc.size
          have hlp : (s.ps ++ pend s.a).length ≤ 2 * k + 1 := by rw [List.length_append]; cases s.a <;> simp [pend] <;> omega
          generalize hP : s.ps ++ pend s.a = P1 at *
          have HP1 := Lib.hid hP
          generalize (if back = true then inverseP p.name else p.name) = nm at *
          obtain ⟨Ap, kp, rfl, _⟩ := hcl.2.2.1.form
          have x2 : wc.cell? ⟨w1.heap.size + 1, 2, none⟩ = some (.slice Ap P1.length kp) := hatc.2.2.1.cell 2
          have hgt := hatc.2.2.1.lt
          have hcl2 := hcl
          obtain ⟨_, _, ⟨css, g1, g2, g3, g4⟩, _⟩ := hcl2
          have G1 := Lib.hid g1
          have G2 := Lib.hid g2
          have G3 := Lib.hid g3
          have G4 := Lib.hid g4
          have HN2 := Lib.hid (Rd.new wc 55 2 1 [.string nm, .slice none 0 0] rfl)
          have HO := Lib.hid (World.ownsRow.alloc g4 (.cells #[.string nm, .slice none 0 0] 55))
          have H1C := Lib.hid (show ∀ (s : ByteArray), ∀ u ∈ [Value.string s, Value.slice none 0 0], u.oneCell' = true by intro s x hx; simp at hx; rcases hx with rfl | rfl <;> rfl)
          have HATC := Lib.hid hatc
          have HCL := Lib.hid hcl
          clear hP hbc hatc hcl g1 g2 g3 g4 HAT HPS HKP
          go_wp2_with (at_builtin; refine wpList_append_rd _ rfl (.tmp 144) (.tmp 147) 24 rfl (w1.heap.size + 1 + 1) 55 i0 _ 2 40 Try.underlying24 hi hz0 hz1 hz2 rfl (by decide) _ _ _ rfl HO.out _ (some ⟨wc.heap.size, 0, none⟩) 1 1 [.string nm, .slice none 0 0] rfl HN2.out (H1C.out _) (by simp only [maxLen]; omega) (by omega) (by simp; omega) ?_)
          intro v9 w9 happ
          have ho9 := happ.own
          obtain ⟨A9, k9, rfl, _⟩ := own_form ho9
          clear ho9
          have hat9 := (HATC.out.alloc _).app HO.out (by decide) (by decide) (by omega) happ
          have HCL9 := Lib.hid ((RySt.pushP (by omega) HCL.out G1.out G2.out G3.out G4.out (pass_none _ _ nm) rfl happ).set (g := w1.heap.size + 1) (i := 2) (u := .slice A9 (P1.length + 1) k9) (by omega) (by omega))
          have x9 : w9.cell? ⟨w1.heap.size + 1, 2, none⟩ = some (.slice Ap P1.length kp) := hat9.2.2.1.cell 2
          have f9 := hat9.2.2.1.frozen 2
          have HAT9 := Lib.hid (hat9.set2 hlo (.slice A9 (P1.length + 1) k9))
          have hl9 := hat9.2.2.1.lt
          clear happ hat9
          go_wp2_with fail
          exact ⟨⟨k + 1, _, false, _, Af, nf, cf, hlt, by go_num, rfl, HUS2.out, HAT9.out, by simp; omega, hlo, hset, .inl ⟨rfl, rfl, HCL9.out⟩, by simp, by simp only [List.length_append, List.length_singleton]; omega⟩, by simp only [intOf]; omega⟩
      · exact absurd h1 HK2.out
    · obtain rfl : k = n := by omega
      have hrd := readyP_ok (back := back) HW0.out (by rw [HLEN.out]; exact hus)
      have HRD := Lib.hid hrd
      have hcl := hps.shut (by unfold maxLen; omega)
      have hlp : (s.ps ++ pend s.a).length ≤ 2 * k + 1 := by rw [List.length_append]; cases s.a <;> simp [pend] <;> omega
      generalize s.ps ++ pend s.a = P1 at *
      have HCL := Lib.hid hcl
      have HAT := Lib.hid hat
      have HSET := Lib.hid hset
      clear hrd hcl hat hset hus hps HRF HR0 HST0 HL HALL
      go_upto_if 151 with fail
      go_cut [] (fun wx => ∃ vp', RfAt w (w1.heap.size + 1) (.bool s.some?) (.slice Af nf cf) vp' wx ∧ ClD B (w1.heap.size + 1 + 1) (if back = true then P1.reverse else P1) vp' wx)
      case first =>
        cases back
        · go_wp2_with fail
          go_meet
          exact ⟨vp, HAT.out, HCL.out⟩
        · obtain ⟨Ap, kp, rfl, _⟩ := HCL.out.2.2.1.form
          have x2 : wr.cell? ⟨w1.heap.size + 1, 2, none⟩ = some (.slice Ap P1.length kp) := HAT.out.2.2.1.cell 2
          have HRS := Lib.hid (show RySt B (w1.heap.size + 1 + 1) [] [] P1 [] (.slice none 0 0) (.slice none 0 0) (.slice Ap P1.length kp) (.slice none 0 0) wr from HCL.out)
          go_wp2_with fail
          go_loopw [19, 20] (fun t i wx => ∃ (j : Nat) (vt : Value), j ≤ P1.length ∧ (∃ I : Int, i = .int .i64 I ∧ I = (j : Int) - 1) ∧ t = vt ∧ RfAt w (w1.heap.size + 1) (.bool s.some?) (.slice Af nf cf) (.slice Ap P1.length kp) wx ∧ RySt B (w1.heap.size + 1 + 1) [] [] P1 (P1.drop j).reverse (.slice none 0 0) (.slice none 0 0) (.slice Ap P1.length kp) vt wx ∧ w1.heap.size + 1 + 1 ≤ wx.heap.size) (fun _ i _ => (intOf i + 1).toNat)
          case atStart =>
            refine ⟨P1.length, _, Nat.le_refl _, ⟨_, rfl, by omega⟩, rfl, HAT.out, ?_, hsz⟩
            rw [List.drop_length]
            exact HRS.out
          case round =>
            obtain ⟨j, vt, hj, ⟨I, rfl, hI⟩, rfl, hat, hry, hz⟩ := hrel
            obtain ⟨At, kt, rfl, _⟩ := hry.2.2.2.1.form
            have y2 : wr.cell? ⟨w1.heap.size + 1, 2, none⟩ = some (.slice Ap P1.length kp) := hat.2.2.1.cell 2
            have hgt := hat.2.2.1.lt
            by_cases hlt : 0 < j
            · obtain ⟨m, rfl⟩ : ∃ m, j = m + 1 := ⟨j - 1, by omega⟩
              obtain rfl : I = (m : Int) := by omega
              obtain ⟨q, hq⟩ : ∃ z, P1[m]? = some z := ⟨_, List.getElem?_eq_getElem (by omega)⟩
              have hdr : (P1.drop m).reverse = (P1.drop (m + 1)).reverse ++ [q] := by
                rw [drop_get hq, List.reverse_cons]
              have hry2 := hry
              obtain ⟨_, _, ⟨css, g1, g2, g3, g4⟩, ⟨cst, t1, t2, t3, t4⟩, _⟩ := hry2
              obtain ⟨cs, hcs⟩ : ∃ z, css[m]? = some z := ⟨_, List.getElem?_eq_getElem (by omega)⟩
              have hpc := g2 m q cs hq hcs
              have hfl := fun (d : Nat) (u : Value) (hu : cs[d]? = some u) => flatten_get g3 m cs hcs d u hu
              obtain ⟨u, rfl, Aq, nq, cq, rfl, hrv⟩ := id hpc
              obtain ⟨g, cg, hv, _, hg1, hg2⟩ := own_some g4 (by omega)
              injection hv with hv hvl hvc
              subst hv hvc
              have z0 : wr.cell? ⟨g, m * 2, none⟩ = some (.string q.name) := by have := World.ownsRow.cells g4 (g := g) rfl _ _ (hfl 0 _ rfl); rwa [add_at, Nat.zero_add, Nat.add_zero] at this
              have z1 : wr.cell? ⟨g, m * 2 + 1, none⟩ = some (.slice Aq nq cq) := by have := World.ownsRow.cells g4 (g := g) rfl _ _ (hfl 1 _ rfl); rwa [add_at, Nat.zero_add] at this
              have hk : Keeps wr (Rows4 B (w1.heap.size + 1 + 1) (.slice none 0 0) (.slice none 0 0) (.slice (some ⟨g, 0, none⟩) P1.length kp) (.slice At (P1.drop (m + 1)).reverse.length kt)) wr (Rows4 B (w1.heap.size + 1 + 1) (.slice none 0 0) (.slice none 0 0) (.slice At (P1.drop (m + 1)).reverse.length kt) (.slice (some ⟨g, 0, none⟩) P1.length kp)) := Keeps.refl (fun _ h => h.swapP)
              have T1 := Lib.hid t1
              have T2 := Lib.hid (fun i a cs (x : (P1.drop (m + 1)).reverse[i]? = some a) (y : cst[i]? = some cs) => (t2 i a cs x y).keep hk)
              have T3 := Lib.hid t3
              have T4 := Lib.hid t4
              have HPC := Lib.hid (hpc.keep hk)
              have HDR := Lib.hid hdr
              have HRY := Lib.hid hry
              have HATR := Lib.hid hat
              have HN2 := Lib.hid (Rd.new wr 55 2 1 [.string q.name, .slice Aq nq cq] rfl)
              have HO := Lib.hid (World.ownsRow.alloc t4 (.cells #[.string q.name, .slice Aq nq cq] 55))
              have H1C := Lib.hid (show ∀ u ∈ [Value.string q.name, Value.slice Aq nq cq], u.oneCell' = true by intro x hx; simp at hx; rcases hx with rfl | rfl <;> rfl)
              have hml : (m : Int) < (P1.length : Int) := by omega
              have hm0 : (0 : Int) ≤ (m : Int) := by omega
              have hrl : (P1.drop (m + 1)).reverse.length ≤ 401 := by rw [List.length_reverse, List.length_drop]; omega
              clear hdr hq hry hcs hpc hfl hrv hk g1 g2 g3 g4 t1 t2 t3 t4 hat hI HCL HAT HRS
              generalize (P1.drop (m + 1)).reverse = PT at *
              go_wp2_with (at_builtin; refine wpList_append_rd _ rfl (.tmp 160) (.tmp 166) 24 rfl (w1.heap.size + 1 + 1) 55 i0 _ 2 40 Try.underlying24 hi hz0 hz1 hz2 rfl (by decide) _ _ _ rfl HO.out _ (some ⟨wr.heap.size, 0, none⟩) 1 1 [.string q.name, .slice Aq nq cq] rfl HN2.out H1C.out (by simp only [maxLen]; omega) (by omega) (by simp; omega) ?_)
              intro v9 w9 happ
              have ho9 := happ.own
              obtain ⟨A9, k9, rfl, _⟩ := own_form ho9
              clear ho9
              have HAT9 := Lib.hid ((HATR.out.alloc _).app HO.out (by decide) (by decide) (by omega) happ)
              have HRY9 := Lib.hid (RySt.pushP (by omega) HRY.out.swapP T1.out T2.out T3.out T4.out HPC.out rfl happ).swapP
              have hl9 := Nat.le_trans HATR.out.2.2.1.lt (Nat.le_trans (by simp) happ.2.1.size)
              clear happ
              go_wp2_with fail
              refine ⟨⟨m, _, by omega, ⟨_, by go_num, rfl⟩, rfl, HAT9.out, ?_, by omega⟩, by simp only [intOf]; omega⟩
              rw [HDR.out]
              exact HRY9.out
            · obtain rfl : j = 0 := by omega
              obtain rfl : I = -1 := by omega
              have y3 := hat.2.2.1.frozen 2
              have hcb := ClD.back hry
              rw [List.drop_zero, List.length_reverse] at hcb
              have HCB := Lib.hid hcb
              have HATR := Lib.hid (hat.set2 hlo (.slice At P1.length kt))
              clear hcb
              clear hry hat hI HCL HAT HRS
              go_wp2_with fail
              go_meet
              exact ⟨.slice At P1.length kt, HATR.out, RySt.set HCB.out (by omega) (by omega)⟩
      case rest =>
        obtain ⟨vp', hat, hcl⟩ := hcut
        obtain ⟨Ap, kp, rfl, _⟩ := hcl.2.2.1.form
        have hpl : (if back = true then P1.reverse else P1).length ≤ maxLen := by unfold maxLen; cases back <;> simp <;> omega
        have hpv := hcl.read (s := w.heap.size + 2) (by omega) hpl
        generalize (if back = true then P1.reverse else P1) = PF at *
        have x0 : wc.cell? ⟨w1.heap.size + 1, 0, none⟩ = some (.bool s.some?) := hat.2.2.1.cell 0
        have x1 : wc.cell? ⟨w1.heap.size + 1, 1, none⟩ = some (.slice Af nf cf) := hat.2.2.1.cell 1
        have x2 : wc.cell? ⟨w1.heap.size + 1, 2, none⟩ = some (.slice Ap PF.length kp) := hat.2.2.1.cell 2
        have z0 : wc.cell? ⟨w.heap.size, 0, none⟩ = some (.bool false) := hat.1.cell 0
        have z1 : wc.cell? ⟨w.heap.size, 1, none⟩ = some (.slice none 0 0) := hat.1.cell 1
        have z2 : wc.cell? ⟨w.heap.size, 2, none⟩ = some (.slice none 0 0) := hat.1.cell 2
        have z3 : wc.cell? ⟨w.heap.size + 1, 0, none⟩ = some (.int .i64 0) := hat.2.1.cell 0
        have z4 : wc.cell? ⟨w.heap.size + 1, 1, none⟩ = some (.int .i64 0) := hat.2.1.cell 1
        have y0 := hat.1.frozen 0
        have y1 := hat.1.frozen 1
        have y2 := hat.1.frozen 2
        have y3 := hat.2.1.frozen 0
        have y4 := hat.2.1.frozen 1
        have hbl := ((((hat.2.2.2.setCell (p := ⟨w.heap.size, 0, none⟩) (by simp) (.bool s.some?)).setCell (p := ⟨w.heap.size, 1, none⟩) (by simp) (.slice Af nf cf)).setCell (p := ⟨w.heap.size, 2, none⟩) (by simp) (.slice Ap PF.length kp)).setCell (p := ⟨w.heap.size + 1, 0, none⟩) (by simp) (.int .i64 0)).setCell (p := ⟨w.heap.size + 1, 1, none⟩) (by simp) (.int .i64 0)
        have hkf : Keeps wc (Fr B (w.heap.size + 2)) (((((wc.setCell ⟨w.heap.size, 0, none⟩ (.bool s.some?)).setCell ⟨w.heap.size, 1, none⟩ (.slice Af nf cf)).setCell ⟨w.heap.size, 2, none⟩ (.slice Ap PF.length kp)).setCell ⟨w.heap.size + 1, 0, none⟩ (.int .i64 0)).setCell ⟨w.heap.size + 1, 1, none⟩ (.int .i64 0)) (Fr B (w.heap.size + 2)) :=
          ((((fr_set (by omega) (by omega)).trans (fr_set (by omega) (by omega))).trans (fr_set (by omega) (by omega))).trans (fr_set (by omega) (by omega))).trans (fr_set (by omega) (by omega))
        have hsv := HSET.out.keep (fun b (hb : b < B) hl => ⟨hbl.block b (Nat.lt_of_lt_of_le hb hBw), (Or.inl hb : Fr B w.heap.size b), Nat.lt_of_lt_of_le hl hbl.size⟩)
        have hpv2 := hpv.keep (hkf.trans (Keeps.refl (X' := Fr B w.heap.size) (fun _ h => h.imp id (fun h => by omega))))
        have HFP := Lib.hid (show RfPost B w.heap.size _ l back (.returned (.tuple #[.agg #[.bool s.some?, .slice Af nf cf, .slice Ap PF.length kp], .agg #[.int .i64 0, .int .i64 0]])) from ⟨[.bool s.some?, .slice Af nf cf, .slice Ap PF.length kp], rfl, by rw [HRD.out], by rw [HRD.out]; exact ⟨_, _, rfl, hsv, hpv2⟩⟩)
        have HBL := Lib.hid hbl
        clear hbl hkf hsv hpv2 hpv hcl hat
        go_wp2_with fail
        refine bodyPost_ret (v := .tuple #[.agg #[.bool s.some?, .slice Af nf cf, .slice Ap PF.length kp], .agg #[.int .i64 0, .int .i64 0]]) (by simp [results, Try.results7, go_sem, z0, z1, z2, z3, z4]) rfl ⟨?_, ?_⟩
        · exact HFP.out
        · exact HBL.out

end Go.Proofs.Ythcjiainpaebfaa
