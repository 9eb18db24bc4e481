/- RdFile + RulesJoinLaw -/
import Derived.Test.YthnhbcohfoodlaaGreatDoorZk47
import Derived.Deep.CutRange
import Derived.Test.YthnhbcohfoodlaaGreatDoorZk48
import Derived.Test.YthnhbcohfoodlaaGreatDoorZk2
namespace Go.Proofs.YthnhbcohfoodlaaGreatDoor
open Go.RowKit
theorem fileF_end {L : List Int} {f i : Nat} {l : List PartD} (h : pk L (spaceP L i) < 0) : fileF L (f + 1) i l = .ok l := by rw [fileF, if_pos h]
theorem fileF_many {L : List Int} {f i : Nat} {l : List PartD} (h : ¬ pk L (spaceP L i) < 0) (h2 : l.length = 200) : fileF L (f + 1) i l = .error (5, spaceP L i) := by rw [fileF, if_neg h, if_pos h2]
theorem fileF_part {L : List Int} {f i : Nat} {l : List PartD} {e : Int × Nat} (h : ¬ pk L (spaceP L i) < 0) (h2 : ¬ l.length = 200) (h3 : partR L (spaceP L i) = .error e) : fileF L (f + 1) i l = .error e := by rw [fileF, if_neg h, if_neg h2, h3]
theorem fileF_need {L : List Int} {f i j : Nat} {l : List PartD} {p : PartD} {e : Int × Nat} (h : ¬ pk L (spaceP L i) < 0) (h2 : ¬ l.length = 200) (h3 : partR L (spaceP L i) = .ok (p, j)) (h4 : needP L (spaceP L j) 59 = .error e) : fileF L (f + 1) i l = .error e := by rw [fileF, if_neg h, if_neg h2, h3]; simp only; rw [h4]
theorem fileF_step {L : List Int} {f i j k : Nat} {l : List PartD} {p : PartD} (h : ¬ pk L (spaceP L i) < 0) (h2 : ¬ l.length = 200) (h3 : partR L (spaceP L i) = .ok (p, j)) (h4 : needP L (spaceP L j) 59 = .ok k) : fileF L (f + 1) i l = fileF L f k (l ++ [p]) := by rw [fileF, if_neg h, if_neg h2, h3]; simp only; rw [h4]
theorem part_list16 {w : World} {X : Nat → Prop} {p : PartD} {cs : List Value} (h : PartX w X p cs) : ∃ v0 v1 v2 v3 v4 v5 v6 v7 v8 v9 v10 v11 v12 v13 v14 v15, cs = [v0, v1, v2, v3, v4, v5, v6, v7, v8, v9, v10, v11, v12, v13, v14, v15] := by
  obtain ⟨A', n', c', L1, a1, x1, L2, a2, x2, L3, a3, x3, R1, b1, y1, R2, b2, y2, R3, b3, y3, rfl⟩ := h.form
  exact ⟨_, _, _, _, _, _, _, _, _, _, _, _, _, _, _, _, rfl⟩
set_option maxHeartbeats 12800000 in
set_option maxRecDepth 100000 in
theorem rules_read (s : ByteArray) (w : World) (hs : s.size ≤ 1099511627776) :
    Calls Tryz.prog 21 #[.string s] w (RulesPost w (rulesP (runesOf s 0))) := by
  obtain ⟨i0, hii, z0, z1, z2⟩ := info_parts infoPartZ
  have hmf : ∀ (fn : Fn) (first cap : Array Value) (w : World), (Instr.makeFunc fn first cap).run Tryz.prog w = .ok (.func fn first cap) w := fun _ _ _ _ => rfl
  have HD := Lib.hid (fun (W : World) => show Calls Tryz.prog 36 #[.string s] W fun e w' => ∃ v, e = .returned v ∧ OwnR w' W.heap.size v (runesOf s 0) ∧ Below W.heap.size W w' from decode_any s W hs)
  have HV := Lib.hid (show ValidL (runesOf s 0) from runesOf_valid s)
  have hLs : (runesOf s 0).length ≤ s.size := by
    unfold runesOf
    rw [List.length_map]
    have := spots_length s s.size 0 (by omega)
    omega
  generalize runesOf s 0 = L at *
  have HB0 := Lib.hid (show Below w.heap.size w ((w.alloc (.cells #[.slice none 0 0] 41)).alloc (.cells #[.int .i64 0, .int .i64 0] 25)) from ((Below.refl _ _).alloc (Nat.le_refl _) _).alloc (by simp) _)
  have HR0 := Lib.hid (show Blk ((w.alloc (.cells #[.slice none 0 0] 41)).alloc (.cells #[.int .i64 0, .int .i64 0] 25)) w.heap.size 41 #[.slice none 0 0] from (Blk.new w _ _).alloc _)
  have HF0 := Lib.hid (show Blk ((w.alloc (.cells #[.slice none 0 0] 41)).alloc (.cells #[.int .i64 0, .int .i64 0] 25)) (w.heap.size + 1) 25 #[.int .i64 0, .int .i64 0] from by
    have := Blk.new (w.alloc (.cells #[.slice none 0 0] 41)) 25 #[.int .i64 0, .int .i64 0]
    simpa using this)
  have HZ0 := Lib.hid (show w.heap.size + 2 ≤ ((w.alloc (.cells #[.slice none 0 0] 41)).alloc (.cells #[.int .i64 0, .int .i64 0] 25)).heap.size by simp)
  go_enter_defers Tryz.func21, Tryz.ntmps21
  go_wp2_with fail
  refine (HD.out _).mono ?_
  rintro e w1 ⟨v, rfl, ho, hb⟩
  have HB1 := Lib.hid (HB0.out.trans (hb.mono HB0.out.size))
  have HR1 := Lib.hid (HR0.out.below hb HR0.out.lt)
  have HF1 := Lib.hid (HF0.out.below hb HF0.out.lt)
  have hz1 : w.heap.size + 2 ≤ w1.heap.size := Nat.le_trans HZ0.out hb.size
  obtain ⟨n, hn⟩ : ∃ n, L.length = n := ⟨_, rfl⟩
  unfold OwnR at ho
  rw [hn] at ho
  have hn62 : n ≤ 4611686018427387904 := by omega
  obtain ⟨A, c, rfl, hnc⟩ := own_form ho
  have hrow : RdX (w1.alloc (.cells #[.slice A n c, .int .i64 0] 92)) (fun b => w.heap.size + 2 ≤ b ∧ b < w1.heap.size) 1 A n (runeCells L) :=
    (RdX.of_own (X := fun b => w.heap.size + 2 ≤ b ∧ b < w1.heap.size) ho (fun b hb => ⟨Nat.le_trans HZ0.out (own_lt ho hb).1, (own_lt ho hb).2⟩)).keep (Keeps.alloc _ (fun b hb _ => hb))
  have HFL := Lib.hid (show RdFl w w1.heap.size A n c L (w1.alloc (.cells #[.slice A n c, .int .i64 0] 92)) 0 (.slice none 0 0) [] from
    ⟨⟨⟨_, Blk.new _ _ _⟩, hrow.lift (fun b h => by have := h.2; omega), hn62, Nat.zero_le _, hnc⟩, hrow, HR1.out.alloc _, HF1.out.alloc _, PtOwn.nil _ _ _, HB1.out.alloc HB1.out.size _, hz1⟩)
  have hC : w1.heap.size + 1 ≤ (w1.alloc (.cells #[.slice A n c, .int .i64 0] 92)).heap.size := by simp
  have HLN := Lib.hid hn
  clear ho hb HD HR0 HF0 HB0 HZ0 hrow HB1 HR1 HF1
  go_upto_region 4 with fail
  generalize w1.alloc (.cells #[.slice A n c, .int .i64 0] 92) = w2 at *
  generalize w1.heap.size = C at *
  have c0 := HFL.out.cur.blk.cell 0
  by_cases hmuch : 16000 < n
  · have HRES := Lib.hid (rulesP_much (L := L) (by rw [hn]; exact hmuch))
    have HSF := Lib.hid (fun (W : World) => syn_fail 4 0 W)
    clear hn
    go_wp2_with fail
    refine (HSF.out _).mono ?_
    rintro e w3 ⟨rfl, rfl⟩
    go_wp2_with fail
    refine rules_thrown _ (w.heap.size + 1) w.heap.size w.heap.size 4 0 0 0 _ _ _ _ _ rfl rfl HFL.out.flt HFL.out.res (by omega) (by omega) (Nat.le_refl _) HFL.out.below.size (by decide) (fun W2 hb2 => ?_)
    rw [HRES.out]
    exact ⟨⟨none, 0, 0, rfl, PartsX.nil _ _, Nat.le_refl _⟩, HFL.out.below.trans hb2⟩
  · have HMU := Lib.hid (show ¬ 16000 < L.length from fun h => hmuch (by rw [← hn]; exact h))
    have hn5 : n ≤ 16000 := by omega
    have HPK := Lib.hid (fun (W : World) (m : Nat) (h : CurAt W C A n c L m) => cur_peek2 W C A n c L m h)
    have HSP := Lib.hid (fun (W : World) (m : Nat) (h : CurAt W C A n c L m) => rd_space W C A n c L m h)
    have HND := Lib.hid (fun (W : World) (m : Nat) (r : Int) (h : CurAt W C A n c L m) (hr : r ≠ -1) => cur_need W C A n c L m r h hr)
    have HPT := Lib.hid (fun (W : World) (m : Nat) (h : CurAt W C A n c L m) => rd_part W C A n c L m h HV.out (by omega))
    obtain ⟨R0, hR0⟩ : ∃ R0, fileF L (L.length + 1) 0 [] = R0 := ⟨_, rfl⟩
    have HERR := Lib.hid (fun (x : Int) (p : Nat) (h : R0 = .error (x, p)) => show rulesP L = ([], (x, (p : Int))) from rulesP_err HMU.out (hR0.trans h))
    have HXN := Lib.hid (fun (x : Int) (p : Nat) (h : R0 = .error (x, p)) => show x ≠ 0 from fileF_num L _ _ _ _ _ (hR0.trans h))
    have HOK := Lib.hid (fun (l : List PartD) (h : R0 = .ok l) => show rulesP L = (l, (0, 0)) from rulesP_ok HMU.out (hR0.trans h))
    have HR0 := Lib.hid hR0
    generalize rulesP L = RP at *
    have hq16 : decide ((16000 : Int) < (n : Int)) = false := decide_eq_false (by omega)
    clear hn hR0 hmuch
    go_wp2_with fail
    refine (HSP.out _ 0 HFL.out.cur).mono ?_
    rintro e w3 ⟨rfl, hc3, hb3⟩
    have HF3 := Lib.hid (HFL.out.step hc3 hb3)
    have hC3 : C + 1 ≤ w3.heap.size := Nat.le_trans hC hb3.1
    clear hc3 hb3 c0 hq16 hC
    go_wp2_with fail
    go_loopw [25] (fun _ wr => ∃ (f j : Nat) (acc : List PartD) (v : Value), j ≤ n ∧ n + 1 ≤ f + j ∧ R0 = fileF L f j acc ∧ acc.length ≤ 200 ∧ RdFl w C A n c L wr (spaceP L j) v acc ∧ C + 1 ≤ wr.heap.size) (fun _ wr => n - (match wr.cell? ⟨C, 1, none⟩ with | some (.int _ j) => j.toNat | _ => 0))
    case atStart => exact ⟨L.length + 1, 0, [], _, Nat.zero_le _, by have := HLN.out; omega, HR0.out.symm, Nat.zero_le _, HF3.out, hC3⟩
    case round =>
      obtain ⟨f0, j, acc, v, hj, hf, hgo, h200, hfl, hCr⟩ := hrel
      obtain ⟨f, rfl⟩ : ∃ f, f0 = f + 1 := ⟨f0 - 1, by omega⟩
      obtain ⟨a, ha⟩ : ∃ a, spaceP L j = a := ⟨_, rfl⟩
      have hja : j ≤ a := by rw [← ha]; exact spaceP_ge L j
      have HGO := Lib.hid hgo
      have HA := Lib.hid ha
      rw [ha] at hfl
      have HFL := Lib.hid hfl
      have HM0 := Lib.hid (hfl.cur.blk.cell 1)
      have han := hfl.cur.le
      obtain ⟨Av, cv, rfl, hcv⟩ := hfl.own.form
      clear hgo ha hfl
      go_wp2_with fail
      refine (HPK.out _ a HFL.out.cur).mono ?_
      rintro e w4 ⟨rfl, hc4, hb4⟩
      have HF4 := Lib.hid (HFL.out.step hc4 hb4)
      have hC4 : C + 1 ≤ w4.heap.size := Nat.le_trans hCr hb4.1
      clear hc4 hb4
      have r4 := HF4.out.res.cell 0
      by_cases hneg : pk L a < 0
      · have hg : decide ((0 : Int) ≤ pk L a) = false := decide_eq_false (by omega)
        have HRES := Lib.hid (HOK.out acc (HGO.out.trans (fileF_end (by rw [HA.out]; exact hneg))))
        clear hneg
        go_wp2_with fail
        have r5 := HF4.out.res.frozen 0
        have s4 := HF4.out.flt.cell 0
        have s5 := HF4.out.flt.cell 1
        have s6 := HF4.out.flt.frozen 0
        have s7 := HF4.out.flt.frozen 1
        go_region
        obtain ⟨h9R, h9F, h9B⟩ := stored_again (m := 1) HF4.out.res HF4.out.flt (show w.heap.size ≠ w.heap.size + 1 by omega)
        obtain ⟨h9b, h9k⟩ := h9B w.heap.size (Nat.le_refl _) (by omega) HF4.out.below.size
        have hW : (((w4.setCell { block := w.heap.size, off := 0 } (Value.slice Av acc.length cv)).setCell { block := w.heap.size + 1, off := 0 } (Value.int IntKind.i64 0)).setCell { block := w.heap.size + 1, off := 1 } (Value.int IntKind.i64 0)).drew = (((w4.drewN 1).setCell { block := w.heap.size, off := 0 } (Value.slice Av acc.length cv)).setCell { block := w.heap.size + 1, off := 0 } (Value.int IntKind.i64 0)).setCell { block := w.heap.size + 1, off := 1 } (Value.int IntKind.i64 0) := rfl
        rw [hW]
        have hCC := HF4.out.hC
        have HRR := Lib.hid h9R
        have HFF := Lib.hid h9F
        have HBB := Lib.hid (HF4.out.below.trans h9b)
        have hpx := HF4.out.own.done
        have HKK := Lib.hid (show Keeps w4 (fun b => C + 1 ≤ b) _ (fun b => w.heap.size ≤ b) from fun b hb hl => let ⟨e, _, h2⟩ := h9k b ⟨by omega, by omega⟩ hl; ⟨e, by omega, h2⟩)
        have HPX := Lib.hid (hpx.keep HKK.out)
        clear h9R h9F h9B h9b h9k r4 r5 s4 s5 s6 s7 HKK hpx hW
        generalize (((w4.drewN 1).setCell { block := w.heap.size, off := 0 } (Value.slice Av acc.length cv)).setCell { block := w.heap.size + 1, off := 0 } (Value.int IntKind.i64 0)).setCell { block := w.heap.size + 1, off := 1 } (Value.int IntKind.i64 0) = w9 at *
        go_wp2_with fail
        refine rules_returns _ (w.heap.size + 1) w.heap.size 0 (.slice Av acc.length cv) _ _ w9 _ rfl rfl HFF.out HRR.out ?_
        rw [HRES.out]
        exact ⟨⟨Av, _, cv, rfl, HPX.out, hcv⟩, HBB.out⟩
      · have hg : decide ((0 : Int) ≤ pk L a) = true := decide_eq_true (by omega)
        have HNG := Lib.hid hneg
        by_cases hm : acc.length = 200
        · have HE := Lib.hid (HGO.out.trans (fileF_many (by rw [HA.out]; exact hneg) hm))
          have HE2 := Lib.hid (show R0 = .error (5, a) by rw [HE.out, HA.out])
          have HRES := Lib.hid (HERR.out 5 a HE2.out)
          have y4 := HF4.out.cur.blk.cell 1
          rw [hm] at r4
          clear hneg
          go_wp2_with fail
          refine (syn_fail 5 a _).mono ?_
          rintro e w5 ⟨rfl, rfl⟩
          go_wp2_with fail
          refine rules_thrown _ (w.heap.size + 1) w.heap.size w.heap.size 5 a 0 0 _ _ _ _ _ rfl rfl HF4.out.flt HF4.out.res (by omega) (by omega) (Nat.le_refl _) HF4.out.below.size (by decide) (fun W2 hb2 => ?_)
          rw [HRES.out]
          exact ⟨⟨none, 0, 0, rfl, PartsX.nil _ _, Nat.le_refl _⟩, HF4.out.below.trans hb2⟩
        · have hm2 : ¬ (acc.length : Int) = 200 := by omega
          have qm : ((acc.length : Int) == 200) = false := by rw [beq_eq_false_iff_ne]; exact hm2
          have HM := Lib.hid hm
          clear hm hm2
          generalize hal : acc.length = al at *
          cases hp : partR L a with
          | error e0 =>
            obtain ⟨x, p⟩ := e0
            have HE := Lib.hid (HGO.out.trans (fileF_part (by rw [HA.out]; exact hneg) (by rw [hal]; exact HM.out) (by rw [HA.out]; exact hp)))
            have HRES := Lib.hid (HERR.out x p HE.out)
            have hx := HXN.out x p HE.out
            have HPA := Lib.hid (fun (W : World) (h : CurAt W C A n c L a) => show Calls Tryz.prog 58 #[.pointer (some ⟨C, 0, none⟩)] W (PtPost W C A n c L (.error (x, p))) by have := HPT.out W a h; rwa [hp] at this)
            clear hp hneg
            go_upto_region 11 with fail
            have HF4d := Lib.hid (HF4.out.on (below_drew1 (Below.refl w4.heap.size w4)))
            have hCC := HF4.out.hC
            -- {err
            refine wp_region_till (S := fun _ => True) [] (by kernel_rfl) trivial (fun _ => ?_)
            refine wpTill_two (i := 0) (j := 1) (o := ⟨some 37, _, _, _, _, _⟩) (o2 := ⟨some 38, _, _, _, _, _⟩) (by kernel_rfl) rfl rfl (fun K hK => ?_) (fun K hK => ?_)
            · go_simp
              try dsimp only
              refine hK.out _ _ trivial (fun _ => ?_)
              clear hK K
              try simp only [Act.put, List.setIfInBounds_toArray, List.set_cons_zero, List.set_cons_succ]
              refine wpTill_one (i := 1) (o := ⟨some 38, _, _, _, _, _⟩) (by kernel_rfl) rfl (fun K hK => ?_)
              go_simp
              try dsimp only
              refine hK.out _ _ trivial (fun _ => ?_)
              clear hK K
              try simp only [Act.put, List.setIfInBounds_toArray, List.set_cons_zero, List.set_cons_succ]
              refine wpTill_one (i := 2) (o := ⟨some 39, _, _, _, _, _⟩) (by kernel_rfl) rfl (fun K hK => ?_)
              go_simp
              go_at_call 58
              refine (HPA.out _ HF4d.out.cur).mono ?_
              rintro e w5 ⟨he, hb5⟩
              unfold thrown at he
              subst he
              have hr5 := (hb5.2.2.2.2 _ HF4d.out.res.lt (by omega)).trans HF4d.out.res
              have hf5 := (hb5.2.2.2.2 _ HF4d.out.flt.lt (by omega)).trans HF4d.out.flt
              have HR5 := Lib.hid hr5
              have HF5 := Lib.hid hf5
              have HB5 := Lib.hid (HF4d.out.below.trans (hb5.to HF4d.out.below.size (by omega)))
              clear hb5 hr5 hf5
              go_wp2_with fail
              refine rules_thrown _ (w.heap.size + 1) w.heap.size w.heap.size x p 0 0 _ _ _ _ _ rfl rfl HF5.out HR5.out (by omega) (by omega) (Nat.le_refl _) HB5.out.size hx (fun W2 hb2 => ?_)
              rw [HRES.out]
              exact ⟨⟨none, 0, 0, rfl, PartsX.nil _ _, Nat.le_refl _⟩, HB5.out.trans hb2⟩
            · go_simp
              try dsimp only
              refine hK.out _ _ trivial (fun _ => ?_)
              clear hK K
              try simp only [Act.put, List.setIfInBounds_toArray, List.set_cons_zero, List.set_cons_succ]
              refine wpTill_two (i := 0) (j := 2) (o := ⟨some 37, _, _, _, _, _⟩) (o2 := ⟨some 39, _, _, _, _, _⟩) (by kernel_rfl) rfl rfl (fun K hK => ?_) (fun K hK => ?_)
              · go_simp
                try dsimp only
                refine hK.out _ _ trivial (fun _ => ?_)
                clear hK K
                try simp only [Act.put, List.setIfInBounds_toArray, List.set_cons_zero, List.set_cons_succ]
                refine wpTill_one (i := 2) (o := ⟨some 39, _, _, _, _, _⟩) (by kernel_rfl) rfl (fun K hK => ?_)
                go_simp
                go_at_call 58
                refine (HPA.out _ HF4d.out.cur).mono ?_
                rintro e w5 ⟨he, hb5⟩
                unfold thrown at he
                subst he
                have hr5 := (hb5.2.2.2.2 _ HF4d.out.res.lt (by omega)).trans HF4d.out.res
                have hf5 := (hb5.2.2.2.2 _ HF4d.out.flt.lt (by omega)).trans HF4d.out.flt
                have HR5 := Lib.hid hr5
                have HF5 := Lib.hid hf5
                have HB5 := Lib.hid (HF4d.out.below.trans (hb5.to HF4d.out.below.size (by omega)))
                clear hb5 hr5 hf5
                go_wp2_with fail
                refine rules_thrown _ (w.heap.size + 1) w.heap.size w.heap.size x p 0 0 _ _ _ _ _ rfl rfl HF5.out HR5.out (by omega) (by omega) (Nat.le_refl _) HB5.out.size hx (fun W2 hb2 => ?_)
                rw [HRES.out]
                exact ⟨⟨none, 0, 0, rfl, PartsX.nil _ _, Nat.le_refl _⟩, HB5.out.trans hb2⟩
              · go_simp
                go_at_call 58
                refine (HPA.out _ HF4d.out.cur).mono ?_
                rintro e w5 ⟨he, hb5⟩
                unfold thrown at he
                subst he
                have hr5 := (hb5.2.2.2.2 _ HF4d.out.res.lt (by omega)).trans HF4d.out.res
                have hf5 := (hb5.2.2.2.2 _ HF4d.out.flt.lt (by omega)).trans HF4d.out.flt
                have HR5 := Lib.hid hr5
                have HF5 := Lib.hid hf5
                have HB5 := Lib.hid (HF4d.out.below.trans (hb5.to HF4d.out.below.size (by omega)))
                clear hb5 hr5 hf5
                go_wp2_with fail
                refine rules_thrown _ (w.heap.size + 1) w.heap.size w.heap.size x p 0 0 _ _ _ _ _ rfl rfl HF5.out HR5.out (by omega) (by omega) (Nat.le_refl _) HB5.out.size hx (fun W2 hb2 => ?_)
                rw [HRES.out]
                exact ⟨⟨none, 0, 0, rfl, PartsX.nil _ _, Nat.le_refl _⟩, HB5.out.trans hb2⟩
            -- err}
          | ok q =>
            obtain ⟨p, j2⟩ := q
            have HPA := Lib.hid (fun (W : World) (h : CurAt W C A n c L a) => show Calls Tryz.prog 58 #[.pointer (some ⟨C, 0, none⟩)] W (PtPost W C A n c L (.ok (p, j2))) by have := HPT.out W a h; rwa [hp] at this)
            have HP := Lib.hid hp
            have HF4d := Lib.hid (HF4.out.on (below_drew1 (Below.refl w4.heap.size w4)))
            have hCC := HF4.out.hC
            have HAP := Lib.hid (fun (b : Nat) (hb : w4.heap.size ≤ b) => HF4.out.own.apart hb)
            have HL9 := Lib.hid (show (acc ++ [p]).length = al + 1 by rw [List.length_append, hal]; rfl)
            clear hp hneg
            go_upto_region 11 with fail
            go_cut [] from 21 to 47 (fun wx => ∃ v' : Value, RdFl w C A n c L wx j2 v' (acc ++ [p]) ∧ C + 1 ≤ wx.heap.size)
            case first =>
              -- {ok
              refine wp_region_till (S := fun _ => True) [] (by kernel_rfl) trivial (fun _ => ?_)
              refine wpTill_two (i := 0) (j := 1) (o := ⟨some 37, _, _, _, _, _⟩) (o2 := ⟨some 38, _, _, _, _, _⟩) (by kernel_rfl) rfl rfl (fun K hK => ?_) (fun K hK => ?_)
              · go_simp
                try dsimp only
                refine hK.out _ _ trivial (fun _ => ?_)
                clear hK K
                try simp only [Act.put, List.setIfInBounds_toArray, List.set_cons_zero, List.set_cons_succ]
                refine wpTill_one (i := 1) (o := ⟨some 38, _, _, _, _, _⟩) (by kernel_rfl) rfl (fun K hK => ?_)
                go_simp
                try dsimp only
                refine hK.out _ _ trivial (fun _ => ?_)
                clear hK K
                try simp only [Act.put, List.setIfInBounds_toArray, List.set_cons_zero, List.set_cons_succ]
                refine wpTill_one (i := 2) (o := ⟨some 39, _, _, _, _, _⟩) (by kernel_rfl) rfl (fun K hK => ?_)
                go_simp
                go_at_call 58
                refine (HPA.out _ HF4d.out.cur).mono ?_
                rintro e w5 ⟨⟨cs, rfl, hpx⟩, hc5, hb5⟩
                obtain ⟨v0, v1, v2, v3, v4, v5, v6, v7, v8, v9, v10, v11, v12, v13, v14, v15, rfl⟩ := part_list16 hpx
                have HF5 := Lib.hid (HF4d.out.step hc5 hb5)
                have hC5 : C + 1 ≤ w5.heap.size := Nat.le_trans hC4 hb5.1
                have HPX := Lib.hid (PartX.keep (X' := ItX (C + 1) C (.slice Av al cv)) (show Keeps w5 (PtX w4.drew C) w5 (ItX (C + 1) C (.slice Av al cv)) from fun b h hl => ⟨rfl, ⟨by have := h.1; have h0 : w4.drew.heap.size = w4.heap.size := rfl; omega, h.2, HAP.out b (Nat.le_of_lt h.1)⟩, hl⟩) hpx)
                have r5 := HF5.out.res.cell 0
                clear hpx hc5 hb5
                try dsimp only
                refine hK.out _ _ trivial (fun _ => ?_)
                clear hK K
                try simp only [Act.put, List.setIfInBounds_toArray, List.set_cons_zero, List.set_cons_succ]
                refine wpTill_one (i := 3) (o := ⟨some 40, _, _, _, _, _⟩) (by kernel_rfl) rfl (fun K hK => ?_)
                have hb8 : Below w5.heap.size w5 (w5.alloc (.cells #[v0, v1, v2, v3, v4, v5, v6, v7, v8, v9, v10, v11, v12, v13, v14, v15] 98)) := (Below.refl _ _).alloc (Nat.le_refl _) _
                have HFB := Lib.hid (HF5.out.on hb8)
                have HP8 := Lib.hid (HPX.out.keep (Keeps.any hb8))
                obtain ⟨ys, hown8, hpush⟩ := HFB.out.own.push p HP8.out
                rw [hal] at hown8 hpush
                have HW8 := Lib.hid hown8
                have HPU := Lib.hid hpush
                have HN9 := Lib.hid (Rd.new w5 98 16 1 [v0, v1, v2, v3, v4, v5, v6, v7, v8, v9, v10, v11, v12, v13, v14, v15] rfl)
                have HON := Lib.hid HPX.out.one.2
                have hsz : C + 1 ≤ (w5.alloc (.cells #[v0, v1, v2, v3, v4, v5, v6, v7, v8, v9, v10, v11, v12, v13, v14, v15] 98)).heap.size := Nat.le_trans hC5 hb8.size
                have r8 : (w5.alloc (.cells #[v0, v1, v2, v3, v4, v5, v6, v7, v8, v9, v10, v11, v12, v13, v14, v15] 98)).cell? ⟨w.heap.size, 0, none⟩ = some (.slice Av al cv) := HFB.out.res.cell 0
                clear hb8 hown8 hpush
                go_simp
                try dsimp only
                refine hK.out _ _ trivial (fun _ => ?_)
                clear hK K
                try simp only [Act.put, List.setIfInBounds_toArray, List.set_cons_zero, List.set_cons_succ]
                refine wpTill_one (i := 4) (o := ⟨some 41, _, _, _, _, _⟩) (by kernel_rfl) rfl (fun K hK => ?_)
                refine step_append_rd _ rfl (.tmp 37) (.tmp 40) 41 rfl (C + 1) 98 i0 _ 16 232 Tryz.underlying41 hii z0 z1 z2 rfl (by decide) _ _ _ rfl HW8.out (w5.heap.size + 1) (some ⟨w5.heap.size, 0, none⟩) 1 1 [v0, v1, v2, v3, v4, v5, v6, v7, v8, v9, v10, v11, v12, v13, v14, v15] rfl HN9.out HON.out (by simp only [maxLen]; omega) (by omega) hsz ?_
                intro v' w9 happ
                obtain ⟨A9, c9, he9, _⟩ := (HPU.out v' w9 happ).form
                rw [HL9.out] at he9
                subst he9
                have HF9 := Lib.hid (HFB.out.push HW8.out happ (HPU.out _ w9 happ) hsz)
                have hb9 := happ.below hsz HW8.out
                have x9 : w9.cell? ⟨w.heap.size, 0, none⟩ = some (.slice Av al cv) := (hb9.cell (p := ⟨w.heap.size, 0, none⟩) (show w.heap.size < C + 1 by omega)).trans (HFB.out.res.cell 0)
                have hk9 : Blk w9 w.heap.size 41 #[.slice Av al cv] := (hb9.block w.heap.size (by omega)).trans HFB.out.res
                have y9 := hk9.frozen 0
                have hz9 := hb9.size
                clear happ
                try dsimp only
                refine hK.out _ _ trivial (fun _ => ?_)
                clear hK K
                try simp only [Act.put, List.setIfInBounds_toArray, List.set_cons_zero, List.set_cons_succ]
                refine wpTill_one (i := 5) (by kernel_rfl) rfl (fun K hK => ?_)
                go_simp
                try dsimp only
                refine hK.out _ _ trivial (fun _ => ?_)
                clear hK K
                try simp only [Act.put, List.setIfInBounds_toArray, List.set_cons_zero, List.set_cons_succ]
                refine wpTill_done (by kernel_rfl) ?_ _
                go_wp2_with fail
                go_meet
                exact ⟨_, HF9.out, by simpa using Nat.le_trans hsz hz9⟩
              · go_simp
                try dsimp only
                refine hK.out _ _ trivial (fun _ => ?_)
                clear hK K
                try simp only [Act.put, List.setIfInBounds_toArray, List.set_cons_zero, List.set_cons_succ]
                refine wpTill_two (i := 0) (j := 2) (o := ⟨some 37, _, _, _, _, _⟩) (o2 := ⟨some 39, _, _, _, _, _⟩) (by kernel_rfl) rfl rfl (fun K hK => ?_) (fun K hK => ?_)
                · go_simp
                  try dsimp only
                  refine hK.out _ _ trivial (fun _ => ?_)
                  clear hK K
                  try simp only [Act.put, List.setIfInBounds_toArray, List.set_cons_zero, List.set_cons_succ]
                  refine wpTill_one (i := 2) (o := ⟨some 39, _, _, _, _, _⟩) (by kernel_rfl) rfl (fun K hK => ?_)
                  go_simp
                  go_at_call 58
                  refine (HPA.out _ HF4d.out.cur).mono ?_
                  rintro e w5 ⟨⟨cs, rfl, hpx⟩, hc5, hb5⟩
                  obtain ⟨v0, v1, v2, v3, v4, v5, v6, v7, v8, v9, v10, v11, v12, v13, v14, v15, rfl⟩ := part_list16 hpx
                  have HF5 := Lib.hid (HF4d.out.step hc5 hb5)
                  have hC5 : C + 1 ≤ w5.heap.size := Nat.le_trans hC4 hb5.1
                  have HPX := Lib.hid (PartX.keep (X' := ItX (C + 1) C (.slice Av al cv)) (show Keeps w5 (PtX w4.drew C) w5 (ItX (C + 1) C (.slice Av al cv)) from fun b h hl => ⟨rfl, ⟨by have := h.1; have h0 : w4.drew.heap.size = w4.heap.size := rfl; omega, h.2, HAP.out b (Nat.le_of_lt h.1)⟩, hl⟩) hpx)
                  have r5 := HF5.out.res.cell 0
                  clear hpx hc5 hb5
                  try dsimp only
                  refine hK.out _ _ trivial (fun _ => ?_)
                  clear hK K
                  try simp only [Act.put, List.setIfInBounds_toArray, List.set_cons_zero, List.set_cons_succ]
                  refine wpTill_one (i := 3) (o := ⟨some 40, _, _, _, _, _⟩) (by kernel_rfl) rfl (fun K hK => ?_)
                  have hb8 : Below w5.heap.size w5 (w5.alloc (.cells #[v0, v1, v2, v3, v4, v5, v6, v7, v8, v9, v10, v11, v12, v13, v14, v15] 98)) := (Below.refl _ _).alloc (Nat.le_refl _) _
                  have HFB := Lib.hid (HF5.out.on hb8)
                  have HP8 := Lib.hid (HPX.out.keep (Keeps.any hb8))
                  obtain ⟨ys, hown8, hpush⟩ := HFB.out.own.push p HP8.out
                  rw [hal] at hown8 hpush
                  have HW8 := Lib.hid hown8
                  have HPU := Lib.hid hpush
                  have HN9 := Lib.hid (Rd.new w5 98 16 1 [v0, v1, v2, v3, v4, v5, v6, v7, v8, v9, v10, v11, v12, v13, v14, v15] rfl)
                  have HON := Lib.hid HPX.out.one.2
                  have hsz : C + 1 ≤ (w5.alloc (.cells #[v0, v1, v2, v3, v4, v5, v6, v7, v8, v9, v10, v11, v12, v13, v14, v15] 98)).heap.size := Nat.le_trans hC5 hb8.size
                  have r8 : (w5.alloc (.cells #[v0, v1, v2, v3, v4, v5, v6, v7, v8, v9, v10, v11, v12, v13, v14, v15] 98)).cell? ⟨w.heap.size, 0, none⟩ = some (.slice Av al cv) := HFB.out.res.cell 0
                  clear hb8 hown8 hpush
                  go_simp
                  try dsimp only
                  refine hK.out _ _ trivial (fun _ => ?_)
                  clear hK K
                  try simp only [Act.put, List.setIfInBounds_toArray, List.set_cons_zero, List.set_cons_succ]
                  refine wpTill_one (i := 4) (o := ⟨some 41, _, _, _, _, _⟩) (by kernel_rfl) rfl (fun K hK => ?_)
                  refine step_append_rd _ rfl (.tmp 37) (.tmp 40) 41 rfl (C + 1) 98 i0 _ 16 232 Tryz.underlying41 hii z0 z1 z2 rfl (by decide) _ _ _ rfl HW8.out (w5.heap.size + 1) (some ⟨w5.heap.size, 0, none⟩) 1 1 [v0, v1, v2, v3, v4, v5, v6, v7, v8, v9, v10, v11, v12, v13, v14, v15] rfl HN9.out HON.out (by simp only [maxLen]; omega) (by omega) hsz ?_
                  intro v' w9 happ
                  obtain ⟨A9, c9, he9, _⟩ := (HPU.out v' w9 happ).form
                  rw [HL9.out] at he9
                  subst he9
                  have HF9 := Lib.hid (HFB.out.push HW8.out happ (HPU.out _ w9 happ) hsz)
                  have hb9 := happ.below hsz HW8.out
                  have x9 : w9.cell? ⟨w.heap.size, 0, none⟩ = some (.slice Av al cv) := (hb9.cell (p := ⟨w.heap.size, 0, none⟩) (show w.heap.size < C + 1 by omega)).trans (HFB.out.res.cell 0)
                  have hk9 : Blk w9 w.heap.size 41 #[.slice Av al cv] := (hb9.block w.heap.size (by omega)).trans HFB.out.res
                  have y9 := hk9.frozen 0
                  have hz9 := hb9.size
                  clear happ
                  try dsimp only
                  refine hK.out _ _ trivial (fun _ => ?_)
                  clear hK K
                  try simp only [Act.put, List.setIfInBounds_toArray, List.set_cons_zero, List.set_cons_succ]
                  refine wpTill_one (i := 5) (by kernel_rfl) rfl (fun K hK => ?_)
                  go_simp
                  try dsimp only
                  refine hK.out _ _ trivial (fun _ => ?_)
                  clear hK K
                  try simp only [Act.put, List.setIfInBounds_toArray, List.set_cons_zero, List.set_cons_succ]
                  refine wpTill_done (by kernel_rfl) ?_ _
                  go_wp2_with fail
                  go_meet
                  exact ⟨_, HF9.out, by simpa using Nat.le_trans hsz hz9⟩
                · go_simp
                  go_at_call 58
                  refine (HPA.out _ HF4d.out.cur).mono ?_
                  rintro e w5 ⟨⟨cs, rfl, hpx⟩, hc5, hb5⟩
                  obtain ⟨v0, v1, v2, v3, v4, v5, v6, v7, v8, v9, v10, v11, v12, v13, v14, v15, rfl⟩ := part_list16 hpx
                  have HF5 := Lib.hid (HF4d.out.step hc5 hb5)
                  have hC5 : C + 1 ≤ w5.heap.size := Nat.le_trans hC4 hb5.1
                  have HPX := Lib.hid (PartX.keep (X' := ItX (C + 1) C (.slice Av al cv)) (show Keeps w5 (PtX w4.drew C) w5 (ItX (C + 1) C (.slice Av al cv)) from fun b h hl => ⟨rfl, ⟨by have := h.1; have h0 : w4.drew.heap.size = w4.heap.size := rfl; omega, h.2, HAP.out b (Nat.le_of_lt h.1)⟩, hl⟩) hpx)
                  have r5 := HF5.out.res.cell 0
                  clear hpx hc5 hb5
                  try dsimp only
                  refine hK.out _ _ trivial (fun _ => ?_)
                  clear hK K
                  try simp only [Act.put, List.setIfInBounds_toArray, List.set_cons_zero, List.set_cons_succ]
                  refine wpTill_two (i := 0) (j := 3) (o := ⟨some 37, _, _, _, _, _⟩) (o2 := ⟨some 40, _, _, _, _, _⟩) (by kernel_rfl) rfl rfl (fun K hK => ?_) (fun K hK => ?_)
                  · go_simp
                    try dsimp only
                    refine hK.out _ _ trivial (fun _ => ?_)
                    clear hK K
                    try simp only [Act.put, List.setIfInBounds_toArray, List.set_cons_zero, List.set_cons_succ]
                    refine wpTill_one (i := 3) (o := ⟨some 40, _, _, _, _, _⟩) (by kernel_rfl) rfl (fun K hK => ?_)
                    have hb8 : Below w5.heap.size w5 (w5.alloc (.cells #[v0, v1, v2, v3, v4, v5, v6, v7, v8, v9, v10, v11, v12, v13, v14, v15] 98)) := (Below.refl _ _).alloc (Nat.le_refl _) _
                    have HFB := Lib.hid (HF5.out.on hb8)
                    have HP8 := Lib.hid (HPX.out.keep (Keeps.any hb8))
                    obtain ⟨ys, hown8, hpush⟩ := HFB.out.own.push p HP8.out
                    rw [hal] at hown8 hpush
                    have HW8 := Lib.hid hown8
                    have HPU := Lib.hid hpush
                    have HN9 := Lib.hid (Rd.new w5 98 16 1 [v0, v1, v2, v3, v4, v5, v6, v7, v8, v9, v10, v11, v12, v13, v14, v15] rfl)
                    have HON := Lib.hid HPX.out.one.2
                    have hsz : C + 1 ≤ (w5.alloc (.cells #[v0, v1, v2, v3, v4, v5, v6, v7, v8, v9, v10, v11, v12, v13, v14, v15] 98)).heap.size := Nat.le_trans hC5 hb8.size
                    have r8 : (w5.alloc (.cells #[v0, v1, v2, v3, v4, v5, v6, v7, v8, v9, v10, v11, v12, v13, v14, v15] 98)).cell? ⟨w.heap.size, 0, none⟩ = some (.slice Av al cv) := HFB.out.res.cell 0
                    clear hb8 hown8 hpush
                    go_simp
                    try dsimp only
                    refine hK.out _ _ trivial (fun _ => ?_)
                    clear hK K
                    try simp only [Act.put, List.setIfInBounds_toArray, List.set_cons_zero, List.set_cons_succ]
                    refine wpTill_one (i := 4) (o := ⟨some 41, _, _, _, _, _⟩) (by kernel_rfl) rfl (fun K hK => ?_)
                    refine step_append_rd _ rfl (.tmp 37) (.tmp 40) 41 rfl (C + 1) 98 i0 _ 16 232 Tryz.underlying41 hii z0 z1 z2 rfl (by decide) _ _ _ rfl HW8.out (w5.heap.size + 1) (some ⟨w5.heap.size, 0, none⟩) 1 1 [v0, v1, v2, v3, v4, v5, v6, v7, v8, v9, v10, v11, v12, v13, v14, v15] rfl HN9.out HON.out (by simp only [maxLen]; omega) (by omega) hsz ?_
                    intro v' w9 happ
                    obtain ⟨A9, c9, he9, _⟩ := (HPU.out v' w9 happ).form
                    rw [HL9.out] at he9
                    subst he9
                    have HF9 := Lib.hid (HFB.out.push HW8.out happ (HPU.out _ w9 happ) hsz)
                    have hb9 := happ.below hsz HW8.out
                    have x9 : w9.cell? ⟨w.heap.size, 0, none⟩ = some (.slice Av al cv) := (hb9.cell (p := ⟨w.heap.size, 0, none⟩) (show w.heap.size < C + 1 by omega)).trans (HFB.out.res.cell 0)
                    have hk9 : Blk w9 w.heap.size 41 #[.slice Av al cv] := (hb9.block w.heap.size (by omega)).trans HFB.out.res
                    have y9 := hk9.frozen 0
                    have hz9 := hb9.size
                    clear happ
                    try dsimp only
                    refine hK.out _ _ trivial (fun _ => ?_)
                    clear hK K
                    try simp only [Act.put, List.setIfInBounds_toArray, List.set_cons_zero, List.set_cons_succ]
                    refine wpTill_one (i := 5) (by kernel_rfl) rfl (fun K hK => ?_)
                    go_simp
                    try dsimp only
                    refine hK.out _ _ trivial (fun _ => ?_)
                    clear hK K
                    try simp only [Act.put, List.setIfInBounds_toArray, List.set_cons_zero, List.set_cons_succ]
                    refine wpTill_done (by kernel_rfl) ?_ _
                    go_wp2_with fail
                    go_meet
                    exact ⟨_, HF9.out, by simpa using Nat.le_trans hsz hz9⟩
                  · have hb8 : Below w5.heap.size w5 (w5.alloc (.cells #[v0, v1, v2, v3, v4, v5, v6, v7, v8, v9, v10, v11, v12, v13, v14, v15] 98)) := (Below.refl _ _).alloc (Nat.le_refl _) _
                    have HFB := Lib.hid (HF5.out.on hb8)
                    have HP8 := Lib.hid (HPX.out.keep (Keeps.any hb8))
                    obtain ⟨ys, hown8, hpush⟩ := HFB.out.own.push p HP8.out
                    rw [hal] at hown8 hpush
                    have HW8 := Lib.hid hown8
                    have HPU := Lib.hid hpush
                    have HN9 := Lib.hid (Rd.new w5 98 16 1 [v0, v1, v2, v3, v4, v5, v6, v7, v8, v9, v10, v11, v12, v13, v14, v15] rfl)
                    have HON := Lib.hid HPX.out.one.2
                    have hsz : C + 1 ≤ (w5.alloc (.cells #[v0, v1, v2, v3, v4, v5, v6, v7, v8, v9, v10, v11, v12, v13, v14, v15] 98)).heap.size := Nat.le_trans hC5 hb8.size
                    have r8 : (w5.alloc (.cells #[v0, v1, v2, v3, v4, v5, v6, v7, v8, v9, v10, v11, v12, v13, v14, v15] 98)).cell? ⟨w.heap.size, 0, none⟩ = some (.slice Av al cv) := HFB.out.res.cell 0
                    clear hb8 hown8 hpush
                    go_simp
                    try dsimp only
                    refine hK.out _ _ trivial (fun _ => ?_)
                    clear hK K
                    try simp only [Act.put, List.setIfInBounds_toArray, List.set_cons_zero, List.set_cons_succ]
                    refine wpTill_one (i := 0) (o := ⟨some 37, _, _, _, _, _⟩) (by kernel_rfl) rfl (fun K hK => ?_)
                    go_simp
                    try dsimp only
                    refine hK.out _ _ trivial (fun _ => ?_)
                    clear hK K
                    try simp only [Act.put, List.setIfInBounds_toArray, List.set_cons_zero, List.set_cons_succ]
                    refine wpTill_one (i := 4) (o := ⟨some 41, _, _, _, _, _⟩) (by kernel_rfl) rfl (fun K hK => ?_)
                    refine step_append_rd _ rfl (.tmp 37) (.tmp 40) 41 rfl (C + 1) 98 i0 _ 16 232 Tryz.underlying41 hii z0 z1 z2 rfl (by decide) _ _ _ rfl HW8.out (w5.heap.size + 1) (some ⟨w5.heap.size, 0, none⟩) 1 1 [v0, v1, v2, v3, v4, v5, v6, v7, v8, v9, v10, v11, v12, v13, v14, v15] rfl HN9.out HON.out (by simp only [maxLen]; omega) (by omega) hsz ?_
                    intro v' w9 happ
                    obtain ⟨A9, c9, he9, _⟩ := (HPU.out v' w9 happ).form
                    rw [HL9.out] at he9
                    subst he9
                    have HF9 := Lib.hid (HFB.out.push HW8.out happ (HPU.out _ w9 happ) hsz)
                    have hb9 := happ.below hsz HW8.out
                    have x9 : w9.cell? ⟨w.heap.size, 0, none⟩ = some (.slice Av al cv) := (hb9.cell (p := ⟨w.heap.size, 0, none⟩) (show w.heap.size < C + 1 by omega)).trans (HFB.out.res.cell 0)
                    have hk9 : Blk w9 w.heap.size 41 #[.slice Av al cv] := (hb9.block w.heap.size (by omega)).trans HFB.out.res
                    have y9 := hk9.frozen 0
                    have hz9 := hb9.size
                    clear happ
                    try dsimp only
                    refine hK.out _ _ trivial (fun _ => ?_)
                    clear hK K
                    try simp only [Act.put, List.setIfInBounds_toArray, List.set_cons_zero, List.set_cons_succ]
                    refine wpTill_one (i := 5) (by kernel_rfl) rfl (fun K hK => ?_)
                    go_simp
                    try dsimp only
                    refine hK.out _ _ trivial (fun _ => ?_)
                    clear hK K
                    try simp only [Act.put, List.setIfInBounds_toArray, List.set_cons_zero, List.set_cons_succ]
                    refine wpTill_done (by kernel_rfl) ?_ _
                    go_wp2_with fail
                    go_meet
                    exact ⟨_, HF9.out, by simpa using Nat.le_trans hsz hz9⟩
              -- ok}
            case rest =>
              obtain ⟨v6, hf6, hC6⟩ := hcut
              have HF6 := Lib.hid hf6
              have hal2 : al < 200 := by have := HM.out; omega
              clear hf6 r4
              go_wp2_with fail
              refine (HSP.out _ j2 HF6.out.cur).mono ?_
              rintro e w7 ⟨rfl, hc7, hb7⟩
              have HF7 := Lib.hid (HF6.out.step hc7 hb7)
              have hC7 : C + 1 ≤ w7.heap.size := Nat.le_trans hC6 hb7.1
              clear hc7 hb7
              obtain ⟨b, hb⟩ : ∃ b, spaceP L j2 = b := ⟨_, rfl⟩
              have HB := Lib.hid hb
              rw [hb] at HF7
              clear hb
              have HN7 := Lib.hid (HND.out _ b 59 HF7.out.cur (by decide))
              cases hnd : needP L b 59 with
              | error e0 =>
                obtain ⟨x, q⟩ := e0
                have HE := Lib.hid (HGO.out.trans (fileF_need (by rw [HA.out]; have := HNG.out; omega) (by rw [hal]; exact HM.out) (by rw [HA.out]; exact HP.out) (by rw [HB.out]; exact hnd)))
                have HRES := Lib.hid (HERR.out x q HE.out)
                have hx := HXN.out x q HE.out
                rw [hnd] at HN7
                clear hnd
                go_wp2_with fail
                refine HN7.out.mono ?_
                rintro e w8 ⟨he, hb8⟩
                unfold thrown at he
                subst he
                have hr8 := (hb8.2.2.2.2 _ HF7.out.res.lt (by omega)).trans HF7.out.res
                have hf8 := (hb8.2.2.2.2 _ HF7.out.flt.lt (by omega)).trans HF7.out.flt
                have HR8 := Lib.hid hr8
                have HF8 := Lib.hid hf8
                have HB8 := Lib.hid (HF7.out.below.trans (hb8.to HF7.out.below.size (by omega)))
                clear hb8 hr8 hf8
                go_wp2_with fail
                refine rules_thrown _ (w.heap.size + 1) w.heap.size w.heap.size x q 0 0 _ _ _ _ _ rfl rfl HF8.out HR8.out (by omega) (by omega) (Nat.le_refl _) HB8.out.size hx (fun W2 hb2 => ?_)
                rw [HRES.out]
                exact ⟨⟨none, 0, 0, rfl, PartsX.nil _ _, Nat.le_refl _⟩, HB8.out.trans hb2⟩
              | ok k =>
                have HST := Lib.hid (HGO.out.trans (fileF_step (by rw [HA.out]; have := HNG.out; omega) (by rw [hal]; exact HM.out) (by rw [HA.out]; exact HP.out) (by rw [HB.out]; exact hnd)))
                have HKB := Lib.hid (show k = b + 1 from (needP_ok hnd).1)
                have HPL := Lib.hid (partR_le HV.out.ok (by rw [HLN.out]; exact han) HP.out)
                rw [hnd] at HN7
                clear hnd
                go_wp2_with fail
                refine HN7.out.mono ?_
                rintro e w8 ⟨rfl, hc8, hb8⟩
                have HF8 := Lib.hid (HF7.out.step hc8 hb8)
                have hC8 : C + 1 ≤ w8.heap.size := Nat.le_trans hC7 hb8.1
                clear hc8 hb8
                go_wp2_with fail
                refine (HSP.out _ k HF8.out.cur).mono ?_
                rintro e w9 ⟨rfl, hc9, hb9⟩
                have HF9 := Lib.hid (HF8.out.step hc9 hb9)
                have hC9 : C + 1 ≤ w9.heap.size := Nat.le_trans hC8 hb9.1
                clear hc9 hb9
                go_wp2_with fail
                have hge : a ≤ b := by have h1 := HPL.out.1; have h2 := spaceP_ge L j2; rw [HB.out] at h2; omega
                have hkb := HKB.out
                have hkn := HF8.out.cur.le
                refine ⟨⟨f, k, acc ++ [p], v6, hkn, by omega, HST.out, by rw [List.length_append, hal]; simp; omega, HF9.out, hC9⟩, ?_⟩
                have e1 : w9.cell? ⟨C, 1, none⟩ = some (.int .i64 ((spaceP L k : Nat) : Int)) := HF9.out.cur.blk.cell 1
                have e2 := HM0.out
                have hle := HF9.out.cur.le
                have hge2 := spaceP_ge L k
                rw [e1, e2]
                simp only [Int.toNat_natCast, List.getElem?_toArray, List.getElem?_cons_succ, List.getElem?_cons_zero]
                omega
end Go.Proofs.YthnhbcohfoodlaaGreatDoor

namespace Go.Proofs.YthnhbcohfoodlaaGreatDoor
open Go.RowKit
def aliveL : List Int := [97, 32, 123, 32, 98, 32, 125, 32, 99, 32, 62, 32, 120, 32, 124, 32, 121, 32, 59]
def aliveD : PartD := ⟨2, noName, [], 1, ⟨false, false, [runeI 97], [runeI 98], [runeI 99], -1⟩, ⟨false, false, [], [runeI 120, runeI 121], [], 1⟩⟩
theorem alive_read : rulesP aliveL = ([aliveD], (0, 0)) := by kernel_rfl
theorem alive_text : runesOf { data := #[97, 32, 123, 32, 98, 32, 125, 32, 99, 32, 62, 32, 120, 32, 124, 32, 121, 32, 59] } 0 = aliveL := by decide +kernel
set_option maxHeartbeats 3200000 in
set_option maxRecDepth 100000 in
theorem law5_alive (w : World) : Calls Tryz.prog 26 #[] w fun e w' => e = .returned (.bool true) ∧ Below w.heap.size w w' := by
  have HSR := Lib.hid (rules_read { data := #[97, 32, 123, 32, 98, 32, 125, 32, 99, 32, 62, 32, 120, 32, 124, 32, 121, 32, 59] } w (by decide))
  rw [alive_text, alive_read] at HSR
  go_enter Tryz.func26, Tryz.ntmps26
  go_wp2_with fail
  refine HSR.out.mono ?_
  rintro e w2 ⟨⟨A2, n2, c2, rfl, hx, hn⟩, hb2⟩
  have hl := hx.len
  simp only [List.length_cons, List.length_nil] at hl
  subst hl
  obtain ⟨b, off, cs, rfl, _, hbb, hp, _, hc⟩ := hx.at (k := 0) rfl
  obtain ⟨A', n', c', L1, a1, x1, L2, a2, x2, L3, a3, x3, R1, b1, y1, R2, b2, y2, R3, b3, y3, rfl⟩ := hp.form
  have hl1 : a1 = 1 := by
    obtain ⟨_, _, _, ls, rs, he, _, _, hsl, hsr, _⟩ := hp
    obtain ⟨_, _, _, _, _, _, _, _, _, rfl, h1, _⟩ := hsl
    obtain ⟨_, _, _, _, _, _, _, _, _, rfl, _⟩ := hsr
    cases he
    exact h1.len.symm
  subst hl1
  have HB2 := Lib.hid (hb2.alloc hb2.size (.cells #[.int .i64 0, .int .i64 0] 25))
  have hbe : Below w2.heap.size w2 (w2.alloc (.cells #[.int .i64 0, .int .i64 0] 25)) := (Below.refl _ _).alloc (Nat.le_refl _) _
  have HF := Lib.hid (Blk.new w2 25 #[.int .i64 0, .int .i64 0])
  have x0 := HF.out.cell 0
  have z0 := HF.out.frozen 0
  have d3 := (hbe.cell (p := ⟨b, off + 0 * 16 + 3, none⟩) hbb).trans (hc 3 _ rfl)
  have d6 := (hbe.cell (p := ⟨b, off + 0 * 16 + 6, none⟩) hbb).trans (hc 6 _ rfl)
  have d15 := (hbe.cell (p := ⟨b, off + 0 * 16 + 15, none⟩) hbb).trans (hc 15 _ rfl)
  simp only [Nat.zero_mul, Nat.add_zero] at d3 d6 d15
  replace d3 : (w2.alloc (.cells #[.int .i64 0, .int .i64 0] 25)).cell? ⟨b, off + 3, none⟩ = some (.int .i64 1) := d3
  replace d15 : (w2.alloc (.cells #[.int .i64 0, .int .i64 0] 25)).cell? ⟨b, off + 15, none⟩ = some (.int .i64 1) := d15
  clear hbe hb2 hx hp hc HSR hbb
  go_wp2_with fail
  go_ret
  exact ⟨rfl, HB2.out⟩
set_option maxHeartbeats 3200000 in
theorem law5_short (s : ByteArray) (w : World) : Calls Tryz.prog 27 #[.string s] w fun e w' => e = .returned (.bool (decide ((s.size : Int) ≤ 16000))) ∧ w' = w := by
  go_enter Tryz.func27, Tryz.ntmps27
  go_wp2_with fail
  go_ret
  exact ⟨rfl, rfl⟩
theorem wpList_append_if {P : Program} {w : World} {ops : Array Oper} {rest : List Oper} {o : Oper} {a : Act} {Q : Exit → Act → World → Prop} (hw : Region.wanted o (yielded ops a.tmps) = true) (s x : Operand) (t : TypeId)
    (ho : o.op = .call { callee := .builtin .append, args := #[s, x], argTypes := #[t, t] })
    (base : Nat) (e : TypeId) (i : TypeInfo) (z : Value) (sz bytes : Nat) (ht : P.underlying t = some (.slice e)) (hi : P.info? e = some i) (hz : i.zero = some z)
    (hsize : i.size = sz) (hby : i.bytes = bytes) (hzs : z.cells.size = sz) (hsz : 0 < sz)
    (v : Value) (n : Nat) (xs : List Value) (hs : a.eval s = v) (hown : w.ownsRow base e sz v n xs)
    (B : Nat) (A : Option Addr) (m c : Nat) (news : List Value) (hx : a.eval x = .slice A m c) (hr : Rd w B sz A m news) (h1 : ∀ u ∈ news, u.oneCell' = true)
    (h63 : n + m ≤ maxLen) (hbytes : (n + m) * bytes ≤ 140737488355328) (hbase : base ≤ w.heap.size)
    (h : ∀ v' w', Appended base e sz v w (n + m) (xs ++ news) v' w' → wpList P ops Q rest (a.put o.dst v') w') : wpList P ops Q (o :: rest) a w :=
  wpList_step fun K hK => by
    rw [if_pos hw]
    exact wp_append_rd w s x t ho base e i z sz bytes ht hi hz hsize hby hzs hsz v n xs hs hown B A m c news hx hr h1 h63 hbytes hbase fun v' w' h2 => hK _ _ (h v' w' h2)
theorem parts_two {W0 w1 w2 : World} {g na nb : Nat} {la lb : List PartD} {v0 v1 v2 : Value} {ca cb : List (List Value)} (ha : la.length = na ∧ ca.length = na ∧ (∀ (i : Nat) (a : PartD) (cs : List Value), la[i]? = some a → ca[i]? = some cs → PartX W0 (· < g) a cs) ∧ (∀ cs ∈ ca, cs.length = 16))
    (hb : lb.length = nb ∧ cb.length = nb ∧ (∀ (i : Nat) (a : PartD) (cs : List Value), lb[i]? = some a → cb[i]? = some cs → PartX W0 (· < g) a cs) ∧ (∀ cs ∈ cb, cs.length = 16))
    (h0 : ∀ b, v0.ownBlock = some b → g ≤ b) (h1 : Appended g 98 16 v0 W0 na ca.flatten v1 w1) (h2 : Appended g 98 16 v1 w1 (na + nb) (ca.flatten ++ cb.flatten) v2 w2) :
    ∃ A2 c2, v2 = .slice A2 (na + nb) c2 ∧ PartsX w2 (fun _ => True) A2 (na + nb) (la ++ lb) := by
  have k1 : Keeps W0 (· < g) w1 (· < g) := Keeps.app h1 (fun b hb e => by have := h0 b e; omega) (fun b hb _ => hb)
  have k2 : Keeps w1 (· < g) w2 (· < g) := Keeps.app h2 (fun b hb e => by have := (own_lt h1.own e).1; omega) (fun b hb _ => hb)
  have kk : Keeps W0 (· < g) w2 (fun _ => True) := (k1.trans k2).trans (Keeps.refl (fun _ _ => trivial))
  obtain ⟨A2, c2, e, _⟩ := own_form h2.own
  subst e
  refine ⟨A2, c2, rfl, ca ++ cb, by rw [List.length_append, ha.1, hb.1], by rw [List.length_append, ha.2.1, hb.2.1], ?_, ?_, ?_⟩
  · intro i a cs hi hc
    rcases Nat.lt_or_ge i na with hl | hl
    · rw [List.getElem?_append_left (by omega)] at hi hc
      exact PartX.keep kk (ha.2.2.1 i a cs hi hc)
    · rw [List.getElem?_append_right (by omega)] at hi hc
      rw [ha.1] at hi
      rw [ha.2.1] at hc
      exact PartX.keep kk (hb.2.2.1 _ a cs hi hc)
  · intro cs hc
    rcases List.mem_append.1 hc with hc | hc
    · exact ha.2.2.2 cs hc
    · exact hb.2.2.2 cs hc
  · rw [List.flatten_append]
    exact RdX.of_own h2.own (fun _ _ => trivial)
set_option maxHeartbeats 6400000 in
set_option maxRecDepth 100000 in
theorem rules_join_law (s t : ByteArray) (w : World) (hs : s.size ≤ 1099511627776) (ht : t.size ≤ 1099511627776) :
    Calls Tryz.prog 7 #[.string s, .string t] w fun e w' => e = .returned (.bool true) ∧ Below w.heap.size w w' := by
  obtain ⟨i0, hii, z0, z1, z2⟩ := info_parts infoPartZ
  have HS := Lib.hid (fun W => rules_read s W hs)
  have HT := Lib.hid (fun W => rules_read t W ht)
  have hsz : (s ++ nlB ++ t).size = s.size + 1 + t.size := by rw [ByteArray.size_append, ByteArray.size_append]; rfl
  have HJ := Lib.hid (fun (h1 : (rulesP (runesOf s 0)).2.1 = 0) (h2 : (rulesP (runesOf t 0)).2.1 = 0) (h3 : s.size + 1 + t.size ≤ 16000) (h4 : (rulesP (runesOf s 0)).1.length + (rulesP (runesOf t 0)).1.length ≤ 200) (W : World) => show Calls Tryz.prog 21 #[.string (s ++ nlB ++ t)] W (RulesPost W ((rulesP (runesOf s 0)).1 ++ (rulesP (runesOf t 0)).1, (0, 0))) by
    have hL := runesOf_length s
    have hM := runesOf_length t
    have := rules_read (s ++ nlB ++ t) W (by omega)
    rwa [runes_lines, rules_join (ValidL.ok (runesOf_valid s)) (ValidL.ok (runesOf_valid t)) h1 h2 (by omega) h4] at this)
  have HSH := Lib.hid (fun W => law5_short (s ++ nlB ++ t) W)
  rw [hsz] at HSH
  have HN1 := Lib.hid (rulesP_parts (ValidL.ok (runesOf_valid s))).2
  have HN2 := Lib.hid (rulesP_parts (ValidL.ok (runesOf_valid t))).2
  generalize rulesP (runesOf s 0) = R1 at *
  generalize rulesP (runesOf t 0) = R2 at *
  obtain ⟨la, e1, p1⟩ := R1
  obtain ⟨lb, e2, p2⟩ := R2
  dsimp only at HJ HN1 HN2
  have hcat : (s ++ nlB) ++ t = s ++ nlB ++ t := rfl
  go_enter Tryz.func7, Tryz.ntmps7
  go_wp2_with fail
  refine (law5_alive _).mono ?_
  rintro e w1 ⟨rfl, hb1⟩
  have HB1 := Lib.hid hb1
  clear hb1
  go_wp2_with fail
  refine (HS.out _).mono ?_
  rintro e w2 ⟨⟨A, na, ca, rfl, hxa, _⟩, hb2⟩
  have HB2 := Lib.hid (HB1.out.trans (hb2.mono HB1.out.size))
  have HXA := Lib.hid (hxa.keep (X' := fun _ => True) (Keeps.refl (fun _ _ => trivial)))
  have HLA := Lib.hid hxa.len
  have hbe2 : Below w2.heap.size w2 (w2.alloc (.cells #[.int .i64 e1, .int .i64 p1] 25)) := (Below.refl _ _).alloc (Nat.le_refl _) _
  have HXA3 := Lib.hid (HXA.out.keep (Keeps.below hbe2 (X' := fun _ => True) (fun _ h _ => h)))
  have HB3 := Lib.hid (HB2.out.alloc HB2.out.size (.cells #[.int .i64 e1, .int .i64 p1] 25))
  have HF3 := Lib.hid (Blk.new w2 25 #[.int .i64 e1, .int .i64 p1])
  clear hb2 hxa hbe2
  go_wp2_with fail
  refine (HT.out _).mono ?_
  rintro e w4 ⟨⟨B, nb, cb, rfl, hxb, _⟩, hb4⟩
  have HB4 := Lib.hid (HB3.out.trans (hb4.mono HB3.out.size))
  have HXA4 := Lib.hid (HXA3.out.keep (Keeps.below hb4 (X' := fun _ => True) (fun _ h _ => h)))
  have hF4 := HF3.out.below hb4 HF3.out.lt
  have HLB := Lib.hid hxb.len
  have hbe4 : Below w4.heap.size w4 (w4.alloc (.cells #[.int .i64 e2, .int .i64 p2] 25)) := (Below.refl _ _).alloc (Nat.le_refl _) _
  have HXB5 := Lib.hid ((hxb.keep (X' := fun _ => True) (Keeps.refl (fun _ _ => trivial))).keep (Keeps.below hbe4 (X' := fun _ => True) (fun _ h _ => h)))
  have HXA5 := Lib.hid (HXA4.out.keep (Keeps.below hbe4 (X' := fun _ => True) (fun _ h _ => h)))
  have HB5 := Lib.hid (HB4.out.alloc HB4.out.size (.cells #[.int .i64 e2, .int .i64 p2] 25))
  have HF5 := Lib.hid (hF4.below hbe4 hF4.lt)
  have HG5 := Lib.hid (Blk.new w4 25 #[.int .i64 e2, .int .i64 p2])
  have x0 := HF5.out.cell 0
  have y0 := HG5.out.cell 0
  clear hb4 hxb hF4 hbe4
  by_cases h1 : e1 = 0
  · subst h1
    by_cases h2 : e2 = 0
    · subst h2
      by_cases h3 : s.size + 1 + t.size ≤ 16000
      · have hd : decide (((s.size + 1 + t.size : Nat) : Int) ≤ 16000) = true := decide_eq_true (by omega)
        have HSX := Lib.hid (fun W => show Calls Tryz.prog 27 #[.string (s ++ nlB ++ t)] W fun e w' => e = .returned (.bool true) ∧ w' = W by have := HSH.out W; rwa [hd] at this)
        by_cases h4 : na + nb ≤ 200
        · have hg : decide ((200 : Int) < (na : Int) + (nb : Int)) = false := decide_eq_false (by omega)
          have HR := Lib.hid (fun W => HJ.out rfl rfl h3 (by rw [HLA.out, HLB.out]; exact h4) W)
          clear hd hcat hsz
          go_wp2_with fail
          refine (HSX.out _).mono ?_
          rintro e w6 ⟨rfl, rfl⟩
          go_wp2_with fail
          refine (HR.out _).mono ?_
          rintro e w7 ⟨⟨Ac, nc, cc, rfl, hxc, _⟩, hb7⟩
          have HB7 := Lib.hid (HB5.out.trans (hb7.mono HB5.out.size))
          have hbe7 : Below w7.heap.size w7 ((w7.alloc (.cells #[.int .i64 0, .int .i64 0] 25)).alloc (.cells #[] 98)) := ((Below.refl _ _).alloc (Nat.le_refl _) _).alloc (by simp) _
          have hlc : nc = na + nb := by have := hxc.len; rw [List.length_append, HLA.out, HLB.out] at this; exact this.symm
          subst hlc
          have HXC := Lib.hid (hxc.keep (Keeps.below hbe7 (X' := (· < w7.heap.size + 1)) (fun b _ hl => Nat.lt_succ_of_lt hl)))
          have hg7 : w7.heap.size + 1 = (w7.alloc (.cells #[.int .i64 0, .int .i64 0] 25)).heap.size := by simp
          have hk7 : Keeps (w4.alloc (.cells #[.int .i64 0, .int .i64 p2] 25)) (fun _ => True) ((w7.alloc (.cells #[.int .i64 0, .int .i64 0] 25)).alloc (.cells #[] 98)) (· < w7.heap.size + 1) :=
            (Keeps.below hb7 (X' := fun b => b < w7.heap.size) (fun b _ hl => Nat.lt_of_lt_of_le hl hb7.size)).trans (Keeps.below hbe7 (X' := fun b => b < w7.heap.size + 1) (fun b h _ => Nat.lt_succ_of_lt h))
          obtain ⟨ca2, a1, a2, a3, a4, a5⟩ := HXA5.out.keep hk7
          obtain ⟨cb2, b1, b2, b3, b4, b5⟩ := HXB5.out.keep hk7
          have HA1 := Lib.hid (show la.length = na ∧ ca2.length = na ∧ _ ∧ _ from ⟨a1, a2, a3, a4⟩)
          have HB1' := Lib.hid (show lb.length = nb ∧ cb2.length = nb ∧ _ ∧ _ from ⟨b1, b2, b3, b4⟩)
          have HRA := Lib.hid a5
          have HRB := Lib.hid b5
          have one : ∀ (ll : List PartD) (cs : List (List Value)) (m : Nat) (W : World) (Xp : Nat → Prop), ll.length = m → cs.length = m → (∀ (i : Nat) (a : PartD) (c : List Value), ll[i]? = some a → cs[i]? = some c → PartX W Xp a c) → ∀ u ∈ cs.flatten, u.oneCell' = true := by
            intro ll cs m W Xp h1 h2 h3 u hu
            obtain ⟨c, hc, huc⟩ := List.mem_flatten.1 hu
            obtain ⟨i, hi, e⟩ := List.mem_iff_getElem.1 hc
            have h4 := h3 i (ll[i]'(by omega)) c (List.getElem?_eq_getElem (by omega)) (by rw [List.getElem?_eq_getElem hi, e])
            exact h4.one.2 u huc
          have HO1 := Lib.hid (one _ _ _ _ _ a1 a2 a3)
          have HO2 := Lib.hid (one _ _ _ _ _ b1 b2 b3)
          have HE := Lib.hid (own_empty (w7.alloc (.cells #[.int .i64 0, .int .i64 0] 25)) 98 16 (w7.heap.size + 1) (w7.heap.size + 1) hg7 (Nat.le_refl _))
          have hsz9 : w7.heap.size + 1 ≤ ((w7.alloc (.cells #[.int .i64 0, .int .i64 0] 25)).alloc (.cells #[] 98)).heap.size := by simp
          have xh := (Blk.new w7 25 #[.int .i64 0, .int .i64 0]).cell 0
          have HBE := Lib.hid (show Below w.heap.size w ((w7.alloc (.cells #[.int .i64 0, .int .i64 0] 25)).alloc (.cells #[] 98)) from HB7.out.trans (hbe7.mono HB7.out.size))
          have h200 : na + nb ≤ 200 := h4
          have hw7 : w.heap.size ≤ w7.heap.size := HB7.out.size
          clear a1 a2 a3 a4 a5 b1 b2 b3 b4 b5 one hk7 hb7 hbe7 hxc hg7
          go_wp2_with (at_builtin; refine wpList_append_if (by rfl) (.tmp 60) (.tmp 61) 41 rfl (w7.heap.size + 1) 98 i0 _ 16 232 Tryz.underlying41 hii z0 z1 z2 rfl (by decide) _ _ _ rfl HE.out _ A na ca ca2.flatten rfl HRA.out.of HO1.out (by simp only [maxLen]; omega) (by omega) hsz9 ?_)
          intro v1 w9 happ
          have ho0 : ∀ b, (Value.slice (some ⟨w7.heap.size + 1, 0, none⟩) 0 0).ownBlock = some b → w7.heap.size + 1 ≤ b := fun b hb => by
            have := (own_lt HE.out hb).1
            exact this
          have hk9 : Keeps ((w7.alloc (.cells #[.int .i64 0, .int .i64 0] 25)).alloc (.cells #[] 98)) (· < w7.heap.size + 1) w9 (· < w7.heap.size + 1) := Keeps.app happ (fun b hb e => by have := ho0 b e; omega) (fun b hb _ => hb)
          have hb9 := happ.below hsz9 HE.out
          have hsz10 : w7.heap.size + 1 ≤ w9.heap.size := Nat.le_trans hsz9 hb9.size
          have HA9 := Lib.hid happ
          have happ2 : Appended (w7.heap.size + 1) 98 16 (.slice (some ⟨w7.heap.size + 1, 0, none⟩) 0 0) ((w7.alloc (.cells #[.int .i64 0, .int .i64 0] 25)).alloc (.cells #[] 98)) na ca2.flatten v1 w9 := happ
          have HA9' := Lib.hid happ2
          have HO9 := Lib.hid happ2.own
          obtain ⟨A1, c1, rfl, _⟩ := own_form happ2.own
          have HRB9 := Lib.hid (HRB.out.keep hk9)
          have HXC9 := Lib.hid (HXC.out.keep hk9)
          have HBD9 := Lib.hid (HBE.out.trans (hb9.mono (by omega)))
          clear happ happ2 hk9 ho0 hb9 HA9
          go_wp2_with (at_builtin; refine wpList_append_if (by rfl) (.tmp 62) (.tmp 63) 41 rfl (w7.heap.size + 1) 98 i0 _ 16 232 Tryz.underlying41 hii z0 z1 z2 rfl (by decide) _ _ _ rfl HO9.out _ B nb cb cb2.flatten rfl HRB9.out.of HO2.out (by simp only [maxLen]; omega) (by omega) hsz10 ?_)
          intro v2 w10 happ
          have hb10 := happ.below hsz10 HO9.out
          have HBD10 := Lib.hid (HBD9.out.trans (hb10.mono (by omega)))
          obtain ⟨A2, c2, rfl, hp2⟩ := parts_two HA1.out HB1'.out (fun b hb => (own_lt HE.out hb).1) HA9'.out happ
          have hxc10 := HXC9.out.keep (Keeps.app happ (X := (· < w7.heap.size + 1)) (X' := (· < w7.heap.size + 1)) (fun b hb e => by have := (own_lt HO9.out e).1; omega) (fun b hb _ => hb))
          have HSM := Lib.hid (parts_same Ac A2 (na + nb) (na + nb) cc c2 (la ++ lb) w10 _ _ (by simp only [maxLen]; omega) hxc10 hp2)
          clear happ hb10 hp2 hxc10
          go_wp2_with fail
          refine HSM.out.mono ?_
          rintro e w11 ⟨rfl, hb11⟩
          have HB11 := Lib.hid (HBD10.out.trans (hb11.mono HBD10.out.size))
          clear hb11
          go_wp2_with fail
          go_ret
          exact ⟨rfl, HB11.out⟩
        · have hg : decide ((200 : Int) < (na : Int) + (nb : Int)) = true := decide_eq_true (by omega)
          have hn1 := HN1.out
          have hn2 := HN2.out
          rw [HLA.out] at hn1
          rw [HLB.out] at hn2
          clear hd
          go_wp2_with fail
          refine (HSX.out _).mono ?_
          rintro e w6 ⟨rfl, rfl⟩
          go_wp2_with fail
          go_ret
          exact ⟨rfl, HB5.out⟩
      · have hd : decide (((s.size + 1 + t.size : Nat) : Int) ≤ 16000) = false := decide_eq_false (by omega)
        have HSX := Lib.hid (fun W => show Calls Tryz.prog 27 #[.string (s ++ nlB ++ t)] W fun e w' => e = .returned (.bool false) ∧ w' = W by have := HSH.out W; rwa [hd] at this)
        clear hd
        go_wp2_with fail
        refine (HSX.out _).mono ?_
        rintro e w6 ⟨rfl, rfl⟩
        go_wp2_with fail
        go_ret
        exact ⟨rfl, HB5.out⟩
    · have q2 : (e2 != 0) = true := by simpa using h2
      go_wp2_with fail
      go_ret
      exact ⟨rfl, HB5.out⟩
  · have q1 : (e1 != 0) = true := by simpa using h1
    go_wp2_with fail
    go_ret
    exact ⟨rfl, HB5.out⟩
end Go.Proofs.YthnhbcohfoodlaaGreatDoor
