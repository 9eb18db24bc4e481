/- RdFile -/
import Derived.Test.YthnhbcohfoodlaaGreatDoorZt46
import Derived.Deep.CutRange
namespace Go.Proofs.YthnhbcohfoodlaaGreatDoor
open Go.RowKit
theorem fileF_end {L : List Int} {f i : Nat} {l : List PartD} (h : pk L (spaceP L i) < 0) : fileF L (f + 1) i l = .ok l := by rw [fileF, if_pos h]
theorem fileF_many {L : List Int} {f i : Nat} {l : List PartD} (h : ¬ pk L (spaceP L i) < 0) (h2 : l.length = 200) : fileF L (f + 1) i l = .error (5, spaceP L i) := by rw [fileF, if_neg h, if_pos h2]
theorem fileF_part {L : List Int} {f i : Nat} {l : List PartD} {e : Int × Nat} (h : ¬ pk L (spaceP L i) < 0) (h2 : ¬ l.length = 200) (h3 : partR L (spaceP L i) = .error e) : fileF L (f + 1) i l = .error e := by rw [fileF, if_neg h, if_neg h2, h3]
theorem fileF_need {L : List Int} {f i j : Nat} {l : List PartD} {p : PartD} {e : Int × Nat} (h : ¬ pk L (spaceP L i) < 0) (h2 : ¬ l.length = 200) (h3 : partR L (spaceP L i) = .ok (p, j)) (h4 : needP L (spaceP L j) 59 = .error e) : fileF L (f + 1) i l = .error e := by rw [fileF, if_neg h, if_neg h2, h3]; simp only; rw [h4]
theorem fileF_step {L : List Int} {f i j k : Nat} {l : List PartD} {p : PartD} (h : ¬ pk L (spaceP L i) < 0) (h2 : ¬ l.length = 200) (h3 : partR L (spaceP L i) = .ok (p, j)) (h4 : needP L (spaceP L j) 59 = .ok k) : fileF L (f + 1) i l = fileF L f k (l ++ [p]) := by rw [fileF, if_neg h, if_neg h2, h3]; simp only; rw [h4]
theorem part_list16 {w : World} {X : Nat → Prop} {p : PartD} {cs : List Value} (h : PartX w X p cs) : ∃ v0 v1 v2 v3 v4 v5 v6 v7 v8 v9 v10 v11 v12 v13 v14 v15, cs = [v0, v1, v2, v3, v4, v5, v6, v7, v8, v9, v10, v11, v12, v13, v14, v15] := by
 obtain ⟨A', n', c', L1, a1, x1, L2, a2, x2, L3, a3, x3, R1, b1, y1, R2, b2, y2, R3, b3, y3, rfl⟩ := h.form
 exact ⟨_, _, _, _, _, _, _, _, _, _, _, _, _, _, _, _, rfl⟩
set_option maxHeartbeats 12800000 in
set_option maxRecDepth 100000 in
theorem rules_read (s : ByteArray) (w : World) (hs : s.size ≤ 1099511627776) :
 Calls Tryz.prog 21 #[.string s] w (RulesPost w (rulesP (runesOf s 0))) := by
 obtain ⟨i0, hii, z0, z1, z2⟩ := info_parts infoPartZ
 have hmf : ∀ (fn : Fn) (first cap : Array Value) (w : World), (Instr.makeFunc fn first cap).run Tryz.prog w = .ok (.func fn first cap) w := fun _ _ _ _ => rfl
 have HD := Lib.hid (fun (W : World) => show Calls Tryz.prog 36 #[.string s] W fun e w' => ∃ v, e = .returned v ∧ OwnR w' W.heap.size v (runesOf s 0) ∧ Below W.heap.size W w' from decode_any s W hs)
 have HV := Lib.hid (show ValidL (runesOf s 0) from runesOf_valid s)
 have hLs : (runesOf s 0).length ≤ s.size := by
  unfold runesOf
  rw [List.length_map]
  have := spots_length s s.size 0 (by omega)
  omega
 generalize runesOf s 0 = L at *
 have HB0 := Lib.hid (show Below w.heap.size w ((w.alloc (.cells #[.slice none 0 0] 41)).alloc (.cells #[.int .i64 0, .int .i64 0] 25)) from ((Below.refl _ _).alloc (Nat.le_refl _) _).alloc (by simp) _)
 have HR0 := Lib.hid (show Blk ((w.alloc (.cells #[.slice none 0 0] 41)).alloc (.cells #[.int .i64 0, .int .i64 0] 25)) w.heap.size 41 #[.slice none 0 0] from (Blk.new w _ _).alloc _)
 have HF0 := Lib.hid (show Blk ((w.alloc (.cells #[.slice none 0 0] 41)).alloc (.cells #[.int .i64 0, .int .i64 0] 25)) (w.heap.size + 1) 25 #[.int .i64 0, .int .i64 0] from by
  have := Blk.new (w.alloc (.cells #[.slice none 0 0] 41)) 25 #[.int .i64 0, .int .i64 0]
  simpa using this)
 have HZ0 := Lib.hid (show w.heap.size + 2 ≤ ((w.alloc (.cells #[.slice none 0 0] 41)).alloc (.cells #[.int .i64 0, .int .i64 0] 25)).heap.size by simp)
 go_enter_defers Tryz.func21, Tryz.ntmps21
 go_wp2_with fail
 refine (HD.out _).mono ?_
 rintro e w1 ⟨v, rfl, ho, hb⟩
 have HB1 := Lib.hid (HB0.out.trans (hb.mono HB0.out.size))
 have HR1 := Lib.hid (HR0.out.below hb HR0.out.lt)
 have HF1 := Lib.hid (HF0.out.below hb HF0.out.lt)
 have hz1 : w.heap.size + 2 ≤ w1.heap.size := Nat.le_trans HZ0.out hb.size
 obtain ⟨n, hn⟩ : ∃ n, L.length = n := ⟨_, rfl⟩
 unfold OwnR at ho
 rw [hn] at ho
 have hn62 : n ≤ 4611686018427387904 := by omega
 obtain ⟨A, c, rfl, hnc⟩ := own_form ho
 have hrow : RdX (w1.alloc (.cells #[.slice A n c, .int .i64 0] 92)) (fun b => w.heap.size + 2 ≤ b ∧ b < w1.heap.size) 1 A n (runeCells L) :=
  (RdX.of_own (X := fun b => w.heap.size + 2 ≤ b ∧ b < w1.heap.size) ho (fun b hb => ⟨Nat.le_trans HZ0.out (own_lt ho hb).1, (own_lt ho hb).2⟩)).keep (Keeps.alloc _ (fun b hb _ => hb))
 have HFL := Lib.hid (show RdFl w w1.heap.size A n c L (w1.alloc (.cells #[.slice A n c, .int .i64 0] 92)) 0 (.slice none 0 0) [] from
  ⟨⟨⟨_, Blk.new _ _ _⟩, hrow.lift (fun b h => by have := h.2; omega), hn62, Nat.zero_le _, hnc⟩, hrow, HR1.out.alloc _, HF1.out.alloc _, PtOwn.nil _ _ _, HB1.out.alloc HB1.out.size _, hz1⟩)
 have hC : w1.heap.size + 1 ≤ (w1.alloc (.cells #[.slice A n c, .int .i64 0] 92)).heap.size := by simp
 have HLN := Lib.hid hn
 clear ho hb HD HR0 HF0 HB0 HZ0 hrow HB1 HR1 HF1
 go_upto_region 4 with fail
 generalize w1.alloc (.cells #[.slice A n c, .int .i64 0] 92) = w2 at *
 generalize w1.heap.size = C at *
 have c0 := HFL.out.cur.blk.cell 0
 by_cases hmuch : 16000 < n
 ·have HRES := Lib.hid (rulesP_much (L := L) (by rw [hn]; exact hmuch))
  have HSF := Lib.hid (fun (W : World) => syn_fail 4 0 W)
  clear hn
  go_wp2_with fail
  refine (HSF.out _).mono ?_
  rintro e w3 ⟨rfl, rfl⟩
  go_wp2_with fail
  refine rules_thrown _ (w.heap.size + 1) w.heap.size w.heap.size 4 0 0 0 _ _ _ _ _ rfl rfl HFL.out.flt HFL.out.res (by omega) (by omega) (Nat.le_refl _) HFL.out.below.size (by decide) (fun W2 hb2 => ?_)
  rw [HRES.out]
  exact ⟨⟨none, 0, 0, rfl, PartsX.nil _ _, Nat.le_refl _⟩, HFL.out.below.trans hb2⟩
 ·have HMU := Lib.hid (show ¬ 16000 < L.length from fun h => hmuch (by rw [← hn]; exact h))
  have hn5 : n ≤ 16000 := by omega
  have HPK := Lib.hid (fun (W : World) (m : Nat) (h : CurAt W C A n c L m) => cur_peek2 W C A n c L m h)
  have HSP := Lib.hid (fun (W : World) (m : Nat) (h : CurAt W C A n c L m) => rd_space W C A n c L m h)
  have HND := Lib.hid (fun (W : World) (m : Nat) (r : Int) (h : CurAt W C A n c L m) (hr : r ≠ -1) => cur_need W C A n c L m r h hr)
  have HPT := Lib.hid (fun (W : World) (m : Nat) (h : CurAt W C A n c L m) => rd_part W C A n c L m h HV.out (by omega))
  obtain ⟨R0, hR0⟩ : ∃ R0, fileF L (L.length + 1) 0 [] = R0 := ⟨_, rfl⟩
  have HERR := Lib.hid (fun (x : Int) (p : Nat) (h : R0 = .error (x, p)) => show rulesP L = ([], (x, (p : Int))) from rulesP_err HMU.out (hR0.trans h))
  have HXN := Lib.hid (fun (x : Int) (p : Nat) (h : R0 = .error (x, p)) => show x ≠ 0 from fileF_num L _ _ _ _ _ (hR0.trans h))
  have HOK := Lib.hid (fun (l : List PartD) (h : R0 = .ok l) => show rulesP L = (l, (0, 0)) from rulesP_ok HMU.out (hR0.trans h))
  have HR0 := Lib.hid hR0
  generalize rulesP L = RP at *
  have hq16 : decide ((16000 : Int) < (n : Int)) = false := decide_eq_false (by omega)
  clear hn hR0 hmuch
  go_wp2_with fail
  refine (HSP.out _ 0 HFL.out.cur).mono ?_
  rintro e w3 ⟨rfl, hc3, hb3⟩
  have HF3 := Lib.hid (HFL.out.step hc3 hb3)
  have hC3 : C + 1 ≤ w3.heap.size := Nat.le_trans hC hb3.1
  clear hc3 hb3 c0 hq16 hC
  go_wp2_with fail
  go_loopw [25] (fun _ wr => ∃ (f j : Nat) (acc : List PartD) (v : Value), j ≤ n ∧ n + 1 ≤ f + j ∧ R0 = fileF L f j acc ∧ acc.length ≤ 200 ∧ RdFl w C A n c L wr (spaceP L j) v acc ∧ C + 1 ≤ wr.heap.size) (fun _ wr => n - (match wr.cell? ⟨C, 1, none⟩ with | some (.int _ j) => j.toNat | _ => 0))
  case atStart => exact ⟨L.length + 1, 0, [], _, Nat.zero_le _, by have := HLN.out; omega, HR0.out.symm, Nat.zero_le _, HF3.out, hC3⟩
  case round =>
   obtain ⟨f0, j, acc, v, hj, hf, hgo, h200, hfl, hCr⟩ := hrel
   obtain ⟨f, rfl⟩ : ∃ f, f0 = f + 1 := ⟨f0 - 1, by omega⟩
   obtain ⟨a, ha⟩ : ∃ a, spaceP L j = a := ⟨_, rfl⟩
   have hja : j ≤ a := by rw [← ha]; exact spaceP_ge L j
   have HGO := Lib.hid hgo
   have HA := Lib.hid ha
   rw [ha] at hfl
   have HFL := Lib.hid hfl
   have HM0 := Lib.hid (hfl.cur.blk.cell 1)
   have han := hfl.cur.le
   obtain ⟨Av, cv, rfl, hcv⟩ := hfl.own.form
   clear hgo ha hfl
   go_wp2_with fail
   refine (HPK.out _ a HFL.out.cur).mono ?_
   rintro e w4 ⟨rfl, hc4, hb4⟩
   have HF4 := Lib.hid (HFL.out.step hc4 hb4)
   have hC4 : C + 1 ≤ w4.heap.size := Nat.le_trans hCr hb4.1
   clear hc4 hb4
   have r4 := HF4.out.res.cell 0
   by_cases hneg : pk L a < 0
   ·have hg : decide ((0 : Int) ≤ pk L a) = false := decide_eq_false (by omega)
    have HRES := Lib.hid (HOK.out acc (HGO.out.trans (fileF_end (by rw [HA.out]; exact hneg))))
    clear hneg
    go_wp2_with fail
    have r5 := HF4.out.res.frozen 0
    have s4 := HF4.out.flt.cell 0
    have s5 := HF4.out.flt.cell 1
    have s6 := HF4.out.flt.frozen 0
    have s7 := HF4.out.flt.frozen 1
    go_region
    obtain ⟨h9R, h9F, h9B⟩ := stored_again (m := 1) HF4.out.res HF4.out.flt (show w.heap.size ≠ w.heap.size + 1 by omega)
    obtain ⟨h9b, h9k⟩ := h9B w.heap.size (Nat.le_refl _) (by omega) HF4.out.below.size
    have hW : (((w4.setCell { block := w.heap.size, off := 0 } (Value.slice Av acc.length cv)).setCell { block := w.heap.size + 1, off := 0 } (Value.int IntKind.i64 0)).setCell { block := w.heap.size + 1, off := 1 } (Value.int IntKind.i64 0)).drew = (((w4.drewN 1).setCell { block := w.heap.size, off := 0 } (Value.slice Av acc.length cv)).setCell { block := w.heap.size + 1, off := 0 } (Value.int IntKind.i64 0)).setCell { block := w.heap.size + 1, off := 1 } (Value.int IntKind.i64 0) := rfl
    rw [hW]
    have hCC := HF4.out.hC
    have HRR := Lib.hid h9R
    have HFF := Lib.hid h9F
    have HBB := Lib.hid (HF4.out.below.trans h9b)
    have hpx := HF4.out.own.done
    have HKK := Lib.hid (show Keeps w4 (fun b => C + 1 ≤ b) _ (fun b => w.heap.size ≤ b) from fun b hb hl => let ⟨e, _, h2⟩ := h9k b ⟨by omega, by omega⟩ hl; ⟨e, by omega, h2⟩)
    have HPX := Lib.hid (hpx.keep HKK.out)
    clear h9R h9F h9B h9b h9k r4 r5 s4 s5 s6 s7 HKK hpx hW
    generalize (((w4.drewN 1).setCell { block := w.heap.size, off := 0 } (Value.slice Av acc.length cv)).setCell { block := w.heap.size + 1, off := 0 } (Value.int IntKind.i64 0)).setCell { block := w.heap.size + 1, off := 1 } (Value.int IntKind.i64 0) = w9 at *
    go_wp2_with fail
    refine rules_returns _ (w.heap.size + 1) w.heap.size 0 (.slice Av acc.length cv) _ _ w9 _ rfl rfl HFF.out HRR.out ?_
    rw [HRES.out]
    exact ⟨⟨Av, _, cv, rfl, HPX.out, hcv⟩, HBB.out⟩
   ·have hg : decide ((0 : Int) ≤ pk L a) = true := decide_eq_true (by omega)
    have HNG := Lib.hid hneg
    by_cases hm : acc.length = 200
    ·have HE := Lib.hid (HGO.out.trans (fileF_many (by rw [HA.out]; exact hneg) hm))
     have HE2 := Lib.hid (show R0 = .error (5, a) by rw [HE.out, HA.out])
     have HRES := Lib.hid (HERR.out 5 a HE2.out)
     have y4 := HF4.out.cur.blk.cell 1
     rw [hm] at r4
     clear hneg
     go_wp2_with fail
     refine (syn_fail 5 a _).mono ?_
     rintro e w5 ⟨rfl, rfl⟩
     go_wp2_with fail
     refine rules_thrown _ (w.heap.size + 1) w.heap.size w.heap.size 5 a 0 0 _ _ _ _ _ rfl rfl HF4.out.flt HF4.out.res (by omega) (by omega) (Nat.le_refl _) HF4.out.below.size (by decide) (fun W2 hb2 => ?_)
     rw [HRES.out]
     exact ⟨⟨none, 0, 0, rfl, PartsX.nil _ _, Nat.le_refl _⟩, HF4.out.below.trans hb2⟩
    ·have hm2 : ¬ (acc.length : Int) = 200 := by omega
     have qm : ((acc.length : Int) == 200) = false := by rw [beq_eq_false_iff_ne]; exact hm2
     have HM := Lib.hid hm
     clear hm hm2
     generalize hal : acc.length = al at *
     cases hp : partR L a with
     | error e0 =>
       obtain ⟨x, p⟩ := e0
       have HE := Lib.hid (HGO.out.trans (fileF_part (by rw [HA.out]; exact hneg) (by rw [hal]; exact HM.out) (by rw [HA.out]; exact hp)))
       have HRES := Lib.hid (HERR.out x p HE.out)
       have hx := HXN.out x p HE.out
       have HPA := Lib.hid (fun (W : World) (h : CurAt W C A n c L a) => show Calls Tryz.prog 58 #[.pointer (some ⟨C, 0, none⟩)] W (PtPost W C A n c L (.error (x, p))) by have := HPT.out W a h; rwa [hp] at this)
       clear hp hneg
       go_upto_region 11 with fail
       have HF4d := Lib.hid (HF4.out.on (below_drew1 (Below.refl w4.heap.size w4)))
       have hCC := HF4.out.hC
       -- {err
       refine wp_region_till (S := fun _ => True) [] (by kernel_rfl) trivial (fun _ => ?_)
       refine wpTill_two (i := 0) (j := 1) (o := ⟨some 37, _, _, _, _, _⟩) (o2 := ⟨some 38, _, _, _, _, _⟩) (by kernel_rfl) rfl rfl (fun K hK => ?_) (fun K hK => ?_)
       ·go_simp
        try dsimp only
        refine hK.out _ _ trivial (fun _ => ?_)
        clear hK K
        try simp only [Act.put, List.setIfInBounds_toArray, List.set_cons_zero, List.set_cons_succ]
        refine wpTill_one (i := 1) (o := ⟨some 38, _, _, _, _, _⟩) (by kernel_rfl) rfl (fun K hK => ?_)
        go_simp
        try dsimp only
        refine hK.out _ _ trivial (fun _ => ?_)
        clear hK K
        try simp only [Act.put, List.setIfInBounds_toArray, List.set_cons_zero, List.set_cons_succ]
        refine wpTill_one (i := 2) (o := ⟨some 39, _, _, _, _, _⟩) (by kernel_rfl) rfl (fun K hK => ?_)
        go_simp
        go_at_call 58
        refine (HPA.out _ HF4d.out.cur).mono ?_
        rintro e w5 ⟨he, hb5⟩
        unfold thrown at he
        subst he
        have hr5 := (hb5.2.2.2.2 _ HF4d.out.res.lt (by omega)).trans HF4d.out.res
        have hf5 := (hb5.2.2.2.2 _ HF4d.out.flt.lt (by omega)).trans HF4d.out.flt
        have HR5 := Lib.hid hr5
        have HF5 := Lib.hid hf5
        have HB5 := Lib.hid (HF4d.out.below.trans (hb5.to HF4d.out.below.size (by omega)))
        clear hb5 hr5 hf5
        go_wp2_with fail
        refine rules_thrown _ (w.heap.size + 1) w.heap.size w.heap.size x p 0 0 _ _ _ _ _ rfl rfl HF5.out HR5.out (by omega) (by omega) (Nat.le_refl _) HB5.out.size hx (fun W2 hb2 => ?_)
        rw [HRES.out]
        exact ⟨⟨none, 0, 0, rfl, PartsX.nil _ _, Nat.le_refl _⟩, HB5.out.trans hb2⟩
       ·go_simp
        try dsimp only
        refine hK.out _ _ trivial (fun _ => ?_)
        clear hK K
        try simp only [Act.put, List.setIfInBounds_toArray, List.set_cons_zero, List.set_cons_succ]
        refine wpTill_two (i := 0) (j := 2) (o := ⟨some 37, _, _, _, _, _⟩) (o2 := ⟨some 39, _, _, _, _, _⟩) (by kernel_rfl) rfl rfl (fun K hK => ?_) (fun K hK => ?_)
        ·go_simp
         try dsimp only
         refine hK.out _ _ trivial (fun _ => ?_)
         clear hK K
         try simp only [Act.put, List.setIfInBounds_toArray, List.set_cons_zero, List.set_cons_succ]
         refine wpTill_one (i := 2) (o := ⟨some 39, _, _, _, _, _⟩) (by kernel_rfl) rfl (fun K hK => ?_)
         go_simp
         go_at_call 58
         refine (HPA.out _ HF4d.out.cur).mono ?_
         rintro e w5 ⟨he, hb5⟩
         unfold thrown at he
         subst he
         have hr5 := (hb5.2.2.2.2 _ HF4d.out.res.lt (by omega)).trans HF4d.out.res
         have hf5 := (hb5.2.2.2.2 _ HF4d.out.flt.lt (by omega)).trans HF4d.out.flt
         have HR5 := Lib.hid hr5
         have HF5 := Lib.hid hf5
         have HB5 := Lib.hid (HF4d.out.below.trans (hb5.to HF4d.out.below.size (by omega)))
         clear hb5 hr5 hf5
         go_wp2_with fail
         refine rules_thrown _ (w.heap.size + 1) w.heap.size w.heap.size x p 0 0 _ _ _ _ _ rfl rfl HF5.out HR5.out (by omega) (by omega) (Nat.le_refl _) HB5.out.size hx (fun W2 hb2 => ?_)
         rw [HRES.out]
         exact ⟨⟨none, 0, 0, rfl, PartsX.nil _ _, Nat.le_refl _⟩, HB5.out.trans hb2⟩
        ·go_simp
         go_at_call 58
         refine (HPA.out _ HF4d.out.cur).mono ?_
         rintro e w5 ⟨he, hb5⟩
         unfold thrown at he
         subst he
         have hr5 := (hb5.2.2.2.2 _ HF4d.out.res.lt (by omega)).trans HF4d.out.res
         have hf5 := (hb5.2.2.2.2 _ HF4d.out.flt.lt (by omega)).trans HF4d.out.flt
         have HR5 := Lib.hid hr5
         have HF5 := Lib.hid hf5
         have HB5 := Lib.hid (HF4d.out.below.trans (hb5.to HF4d.out.below.size (by omega)))
         clear hb5 hr5 hf5
         go_wp2_with fail
         refine rules_thrown _ (w.heap.size + 1) w.heap.size w.heap.size x p 0 0 _ _ _ _ _ rfl rfl HF5.out HR5.out (by omega) (by omega) (Nat.le_refl _) HB5.out.size hx (fun W2 hb2 => ?_)
         rw [HRES.out]
         exact ⟨⟨none, 0, 0, rfl, PartsX.nil _ _, Nat.le_refl _⟩, HB5.out.trans hb2⟩
       -- err}
     | ok q =>
       obtain ⟨p, j2⟩ := q
       have HPA := Lib.hid (fun (W : World) (h : CurAt W C A n c L a) => show Calls Tryz.prog 58 #[.pointer (some ⟨C, 0, none⟩)] W (PtPost W C A n c L (.ok (p, j2))) by have := HPT.out W a h; rwa [hp] at this)
       have HP := Lib.hid hp
       have HF4d := Lib.hid (HF4.out.on (below_drew1 (Below.refl w4.heap.size w4)))
       have hCC := HF4.out.hC
       have HAP := Lib.hid (fun (b : Nat) (hb : w4.heap.size ≤ b) => HF4.out.own.apart hb)
       have HL9 := Lib.hid (show (acc ++ [p]).length = al + 1 by rw [List.length_append, hal]; rfl)
       clear hp hneg
       go_upto_region 11 with fail
       go_cut [] from 21 to 47 (fun wx => ∃ v' : Value, RdFl w C A n c L wx j2 v' (acc ++ [p]) ∧ C + 1 ≤ wx.heap.size)
       case first =>
        -- {ok
        refine wp_region_till (S := fun _ => True) [] (by kernel_rfl) trivial (fun _ => ?_)
        refine wpTill_two (i := 0) (j := 1) (o := ⟨some 37, _, _, _, _, _⟩) (o2 := ⟨some 38, _, _, _, _, _⟩) (by kernel_rfl) rfl rfl (fun K hK => ?_) (fun K hK => ?_)
        ·go_simp
         try dsimp only
         refine hK.out _ _ trivial (fun _ => ?_)
         clear hK K
         try simp only [Act.put, List.setIfInBounds_toArray, List.set_cons_zero, List.set_cons_succ]
         refine wpTill_one (i := 1) (o := ⟨some 38, _, _, _, _, _⟩) (by kernel_rfl) rfl (fun K hK => ?_)
         go_simp
         try dsimp only
         refine hK.out _ _ trivial (fun _ => ?_)
         clear hK K
         try simp only [Act.put, List.setIfInBounds_toArray, List.set_cons_zero, List.set_cons_succ]
         refine wpTill_one (i := 2) (o := ⟨some 39, _, _, _, _, _⟩) (by kernel_rfl) rfl (fun K hK => ?_)
         go_simp
         go_at_call 58
         refine (HPA.out _ HF4d.out.cur).mono ?_
         rintro e w5 ⟨⟨cs, rfl, hpx⟩, hc5, hb5⟩
         obtain ⟨v0, v1, v2, v3, v4, v5, v6, v7, v8, v9, v10, v11, v12, v13, v14, v15, rfl⟩ := part_list16 hpx
         have HF5 := Lib.hid (HF4d.out.step hc5 hb5)
         have hC5 : C + 1 ≤ w5.heap.size := Nat.le_trans hC4 hb5.1
         have HPX := Lib.hid (PartX.keep (X' := ItX (C + 1) C (.slice Av al cv)) (show Keeps w5 (PtX w4.drew C) w5 (ItX (C + 1) C (.slice Av al cv)) from fun b h hl => ⟨rfl, ⟨by have := h.1; have h0 : w4.drew.heap.size = w4.heap.size := rfl; omega, h.2, HAP.out b (Nat.le_of_lt h.1)⟩, hl⟩) hpx)
         have r5 := HF5.out.res.cell 0
         clear hpx hc5 hb5
         try dsimp only
         refine hK.out _ _ trivial (fun _ => ?_)
         clear hK K
         try simp only [Act.put, List.setIfInBounds_toArray, List.set_cons_zero, List.set_cons_succ]
         refine wpTill_one (i := 3) (o := ⟨some 40, _, _, _, _, _⟩) (by kernel_rfl) rfl (fun K hK => ?_)
         have hb8 : Below w5.heap.size w5 (w5.alloc (.cells #[v0, v1, v2, v3, v4, v5, v6, v7, v8, v9, v10, v11, v12, v13, v14, v15] 98)) := (Below.refl _ _).alloc (Nat.le_refl _) _
         have HFB := Lib.hid (HF5.out.on hb8)
         have HP8 := Lib.hid (HPX.out.keep (Keeps.any hb8))
         obtain ⟨ys, hown8, hpush⟩ := HFB.out.own.push p HP8.out
         rw [hal] at hown8 hpush
         have HW8 := Lib.hid hown8
         have HPU := Lib.hid hpush
         have HN9 := Lib.hid (Rd.new w5 98 16 1 [v0, v1, v2, v3, v4, v5, v6, v7, v8, v9, v10, v11, v12, v13, v14, v15] rfl)
         have HON := Lib.hid HPX.out.one.2
         have hsz : C + 1 ≤ (w5.alloc (.cells #[v0, v1, v2, v3, v4, v5, v6, v7, v8, v9, v10, v11, v12, v13, v14, v15] 98)).heap.size := Nat.le_trans hC5 hb8.size
         have r8 : (w5.alloc (.cells #[v0, v1, v2, v3, v4, v5, v6, v7, v8, v9, v10, v11, v12, v13, v14, v15] 98)).cell? ⟨w.heap.size, 0, none⟩ = some (.slice Av al cv) := HFB.out.res.cell 0
         clear hb8 hown8 hpush
         go_simp
         try dsimp only
         refine hK.out _ _ trivial (fun _ => ?_)
         clear hK K
         try simp only [Act.put, List.setIfInBounds_toArray, List.set_cons_zero, List.set_cons_succ]
         refine wpTill_one (i := 4) (o := ⟨some 41, _, _, _, _, _⟩) (by kernel_rfl) rfl (fun K hK => ?_)
         refine step_append_rd _ rfl (.tmp 37) (.tmp 40) 41 rfl (C + 1) 98 i0 _ 16 232 Tryz.underlying41 hii z0 z1 z2 rfl (by decide) _ _ _ rfl HW8.out (w5.heap.size + 1) (some ⟨w5.heap.size, 0, none⟩) 1 1 [v0, v1, v2, v3, v4, v5, v6, v7, v8, v9, v10, v11, v12, v13, v14, v15] rfl HN9.out HON.out (by simp only [maxLen]; omega) (by omega) hsz ?_
         intro v' w9 happ
         obtain ⟨A9, c9, he9, _⟩ := (HPU.out v' w9 happ).form
         rw [HL9.out] at he9
         subst he9
         have HF9 := Lib.hid (HFB.out.push HW8.out happ (HPU.out _ w9 happ) hsz)
         have hb9 := happ.below hsz HW8.out
         have x9 : w9.cell? ⟨w.heap.size, 0, none⟩ = some (.slice Av al cv) := (hb9.cell (p := ⟨w.heap.size, 0, none⟩) (show w.heap.size < C + 1 by omega)).trans (HFB.out.res.cell 0)
         have hk9 : Blk w9 w.heap.size 41 #[.slice Av al cv] := (hb9.block w.heap.size (by omega)).trans HFB.out.res
         have y9 := hk9.frozen 0
         have hz9 := hb9.size
         clear happ
         try dsimp only
         refine hK.out _ _ trivial (fun _ => ?_)
         clear hK K
         try simp only [Act.put, List.setIfInBounds_toArray, List.set_cons_zero, List.set_cons_succ]
         refine wpTill_one (i := 5) (by kernel_rfl) rfl (fun K hK => ?_)
         go_simp
         try dsimp only
         refine hK.out _ _ trivial (fun _ => ?_)
         clear hK K
         try simp only [Act.put, List.setIfInBounds_toArray, List.set_cons_zero, List.set_cons_succ]
         refine wpTill_done (by kernel_rfl) ?_ _
         go_wp2_with fail
         go_meet
         exact ⟨_, HF9.out, by simpa using Nat.le_trans hsz hz9⟩
        ·go_simp
         try dsimp only
         refine hK.out _ _ trivial (fun _ => ?_)
         clear hK K
         try simp only [Act.put, List.setIfInBounds_toArray, List.set_cons_zero, List.set_cons_succ]
         refine wpTill_two (i := 0) (j := 2) (o := ⟨some 37, _, _, _, _, _⟩) (o2 := ⟨some 39, _, _, _, _, _⟩) (by kernel_rfl) rfl rfl (fun K hK => ?_) (fun K hK => ?_)
         ·go_simp
          try dsimp only
          refine hK.out _ _ trivial (fun _ => ?_)
          clear hK K
          try simp only [Act.put, List.setIfInBounds_toArray, List.set_cons_zero, List.set_cons_succ]
          refine wpTill_one (i := 2) (o := ⟨some 39, _, _, _, _, _⟩) (by kernel_rfl) rfl (fun K hK => ?_)
          go_simp
          go_at_call 58
          refine (HPA.out _ HF4d.out.cur).mono ?_
          rintro e w5 ⟨⟨cs, rfl, hpx⟩, hc5, hb5⟩
          obtain ⟨v0, v1, v2, v3, v4, v5, v6, v7, v8, v9, v10, v11, v12, v13, v14, v15, rfl⟩ := part_list16 hpx
          have HF5 := Lib.hid (HF4d.out.step hc5 hb5)
          have hC5 : C + 1 ≤ w5.heap.size := Nat.le_trans hC4 hb5.1
          have HPX := Lib.hid (PartX.keep (X' := ItX (C + 1) C (.slice Av al cv)) (show Keeps w5 (PtX w4.drew C) w5 (ItX (C + 1) C (.slice Av al cv)) from fun b h hl => ⟨rfl, ⟨by have := h.1; have h0 : w4.drew.heap.size = w4.heap.size := rfl; omega, h.2, HAP.out b (Nat.le_of_lt h.1)⟩, hl⟩) hpx)
          have r5 := HF5.out.res.cell 0
          clear hpx hc5 hb5
          try dsimp only
          refine hK.out _ _ trivial (fun _ => ?_)
          clear hK K
          try simp only [Act.put, List.setIfInBounds_toArray, List.set_cons_zero, List.set_cons_succ]
          refine wpTill_one (i := 3) (o := ⟨some 40, _, _, _, _, _⟩) (by kernel_rfl) rfl (fun K hK => ?_)
          have hb8 : Below w5.heap.size w5 (w5.alloc (.cells #[v0, v1, v2, v3, v4, v5, v6, v7, v8, v9, v10, v11, v12, v13, v14, v15] 98)) := (Below.refl _ _).alloc (Nat.le_refl _) _
          have HFB := Lib.hid (HF5.out.on hb8)
          have HP8 := Lib.hid (HPX.out.keep (Keeps.any hb8))
          obtain ⟨ys, hown8, hpush⟩ := HFB.out.own.push p HP8.out
          rw [hal] at hown8 hpush
          have HW8 := Lib.hid hown8
          have HPU := Lib.hid hpush
          have HN9 := Lib.hid (Rd.new w5 98 16 1 [v0, v1, v2, v3, v4, v5, v6, v7, v8, v9, v10, v11, v12, v13, v14, v15] rfl)
          have HON := Lib.hid HPX.out.one.2
          have hsz : C + 1 ≤ (w5.alloc (.cells #[v0, v1, v2, v3, v4, v5, v6, v7, v8, v9, v10, v11, v12, v13, v14, v15] 98)).heap.size := Nat.le_trans hC5 hb8.size
          have r8 : (w5.alloc (.cells #[v0, v1, v2, v3, v4, v5, v6, v7, v8, v9, v10, v11, v12, v13, v14, v15] 98)).cell? ⟨w.heap.size, 0, none⟩ = some (.slice Av al cv) := HFB.out.res.cell 0
          clear hb8 hown8 hpush
          go_simp
          try dsimp only
          refine hK.out _ _ trivial (fun _ => ?_)
          clear hK K
          try simp only [Act.put, List.setIfInBounds_toArray, List.set_cons_zero, List.set_cons_succ]
          refine wpTill_one (i := 4) (o := ⟨some 41, _, _, _, _, _⟩) (by kernel_rfl) rfl (fun K hK => ?_)
          refine step_append_rd _ rfl (.tmp 37) (.tmp 40) 41 rfl (C + 1) 98 i0 _ 16 232 Tryz.underlying41 hii z0 z1 z2 rfl (by decide) _ _ _ rfl HW8.out (w5.heap.size + 1) (some ⟨w5.heap.size, 0, none⟩) 1 1 [v0, v1, v2, v3, v4, v5, v6, v7, v8, v9, v10, v11, v12, v13, v14, v15] rfl HN9.out HON.out (by simp only [maxLen]; omega) (by omega) hsz ?_
          intro v' w9 happ
          obtain ⟨A9, c9, he9, _⟩ := (HPU.out v' w9 happ).form
          rw [HL9.out] at he9
          subst he9
          have HF9 := Lib.hid (HFB.out.push HW8.out happ (HPU.out _ w9 happ) hsz)
          have hb9 := happ.below hsz HW8.out
          have x9 : w9.cell? ⟨w.heap.size, 0, none⟩ = some (.slice Av al cv) := (hb9.cell (p := ⟨w.heap.size, 0, none⟩) (show w.heap.size < C + 1 by omega)).trans (HFB.out.res.cell 0)
          have hk9 : Blk w9 w.heap.size 41 #[.slice Av al cv] := (hb9.block w.heap.size (by omega)).trans HFB.out.res
          have y9 := hk9.frozen 0
          have hz9 := hb9.size
          clear happ
          try dsimp only
          refine hK.out _ _ trivial (fun _ => ?_)
          clear hK K
          try simp only [Act.put, List.setIfInBounds_toArray, List.set_cons_zero, List.set_cons_succ]
          refine wpTill_one (i := 5) (by kernel_rfl) rfl (fun K hK => ?_)
          go_simp
          try dsimp only
          refine hK.out _ _ trivial (fun _ => ?_)
          clear hK K
          try simp only [Act.put, List.setIfInBounds_toArray, List.set_cons_zero, List.set_cons_succ]
          refine wpTill_done (by kernel_rfl) ?_ _
          go_wp2_with fail
          go_meet
          exact ⟨_, HF9.out, by simpa using Nat.le_trans hsz hz9⟩
         ·go_simp
          go_at_call 58
          refine (HPA.out _ HF4d.out.cur).mono ?_
          rintro e w5 ⟨⟨cs, rfl, hpx⟩, hc5, hb5⟩
          obtain ⟨v0, v1, v2, v3, v4, v5, v6, v7, v8, v9, v10, v11, v12, v13, v14, v15, rfl⟩ := part_list16 hpx
          have HF5 := Lib.hid (HF4d.out.step hc5 hb5)
          have hC5 : C + 1 ≤ w5.heap.size := Nat.le_trans hC4 hb5.1
          have HPX := Lib.hid (PartX.keep (X' := ItX (C + 1) C (.slice Av al cv)) (show Keeps w5 (PtX w4.drew C) w5 (ItX (C + 1) C (.slice Av al cv)) from fun b h hl => ⟨rfl, ⟨by have := h.1; have h0 : w4.drew.heap.size = w4.heap.size := rfl; omega, h.2, HAP.out b (Nat.le_of_lt h.1)⟩, hl⟩) hpx)
          have r5 := HF5.out.res.cell 0
          clear hpx hc5 hb5
          try dsimp only
          refine hK.out _ _ trivial (fun _ => ?_)
          clear hK K
          try simp only [Act.put, List.setIfInBounds_toArray, List.set_cons_zero, List.set_cons_succ]
          refine wpTill_two (i := 0) (j := 3) (o := ⟨some 37, _, _, _, _, _⟩) (o2 := ⟨some 40, _, _, _, _, _⟩) (by kernel_rfl) rfl rfl (fun K hK => ?_) (fun K hK => ?_)
          ·go_simp
           try dsimp only
           refine hK.out _ _ trivial (fun _ => ?_)
           clear hK K
           try simp only [Act.put, List.setIfInBounds_toArray, List.set_cons_zero, List.set_cons_succ]
           refine wpTill_one (i := 3) (o := ⟨some 40, _, _, _, _, _⟩) (by kernel_rfl) rfl (fun K hK => ?_)
           have hb8 : Below w5.heap.size w5 (w5.alloc (.cells #[v0, v1, v2, v3, v4, v5, v6, v7, v8, v9, v10, v11, v12, v13, v14, v15] 98)) := (Below.refl _ _).alloc (Nat.le_refl _) _
           have HFB := Lib.hid (HF5.out.on hb8)
           have HP8 := Lib.hid (HPX.out.keep (Keeps.any hb8))
           obtain ⟨ys, hown8, hpush⟩ := HFB.out.own.push p HP8.out
           rw [hal] at hown8 hpush
           have HW8 := Lib.hid hown8
           have HPU := Lib.hid hpush
           have HN9 := Lib.hid (Rd.new w5 98 16 1 [v0, v1, v2, v3, v4, v5, v6, v7, v8, v9, v10, v11, v12, v13, v14, v15] rfl)
           have HON := Lib.hid HPX.out.one.2
           have hsz : C + 1 ≤ (w5.alloc (.cells #[v0, v1, v2, v3, v4, v5, v6, v7, v8, v9, v10, v11, v12, v13, v14, v15] 98)).heap.size := Nat.le_trans hC5 hb8.size
           have r8 : (w5.alloc (.cells #[v0, v1, v2, v3, v4, v5, v6, v7, v8, v9, v10, v11, v12, v13, v14, v15] 98)).cell? ⟨w.heap.size, 0, none⟩ = some (.slice Av al cv) := HFB.out.res.cell 0
           clear hb8 hown8 hpush
           go_simp
           try dsimp only
           refine hK.out _ _ trivial (fun _ => ?_)
           clear hK K
           try simp only [Act.put, List.setIfInBounds_toArray, List.set_cons_zero, List.set_cons_succ]
           refine wpTill_one (i := 4) (o := ⟨some 41, _, _, _, _, _⟩) (by kernel_rfl) rfl (fun K hK => ?_)
           refine step_append_rd _ rfl (.tmp 37) (.tmp 40) 41 rfl (C + 1) 98 i0 _ 16 232 Tryz.underlying41 hii z0 z1 z2 rfl (by decide) _ _ _ rfl HW8.out (w5.heap.size + 1) (some ⟨w5.heap.size, 0, none⟩) 1 1 [v0, v1, v2, v3, v4, v5, v6, v7, v8, v9, v10, v11, v12, v13, v14, v15] rfl HN9.out HON.out (by simp only [maxLen]; omega) (by omega) hsz ?_
           intro v' w9 happ
           obtain ⟨A9, c9, he9, _⟩ := (HPU.out v' w9 happ).form
           rw [HL9.out] at he9
           subst he9
           have HF9 := Lib.hid (HFB.out.push HW8.out happ (HPU.out _ w9 happ) hsz)
           have hb9 := happ.below hsz HW8.out
           have x9 : w9.cell? ⟨w.heap.size, 0, none⟩ = some (.slice Av al cv) := (hb9.cell (p := ⟨w.heap.size, 0, none⟩) (show w.heap.size < C + 1 by omega)).trans (HFB.out.res.cell 0)
           have hk9 : Blk w9 w.heap.size 41 #[.slice Av al cv] := (hb9.block w.heap.size (by omega)).trans HFB.out.res
           have y9 := hk9.frozen 0
           have hz9 := hb9.size
           clear happ
           try dsimp only
           refine hK.out _ _ trivial (fun _ => ?_)
           clear hK K
           try simp only [Act.put, List.setIfInBounds_toArray, List.set_cons_zero, List.set_cons_succ]
           refine wpTill_one (i := 5) (by kernel_rfl) rfl (fun K hK => ?_)
           go_simp
           try dsimp only
           refine hK.out _ _ trivial (fun _ => ?_)
           clear hK K
           try simp only [Act.put, List.setIfInBounds_toArray, List.set_cons_zero, List.set_cons_succ]
           refine wpTill_done (by kernel_rfl) ?_ _
           go_wp2_with fail
           go_meet
           exact ⟨_, HF9.out, by simpa using Nat.le_trans hsz hz9⟩
          ·have hb8 : Below w5.heap.size w5 (w5.alloc (.cells #[v0, v1, v2, v3, v4, v5, v6, v7, v8, v9, v10, v11, v12, v13, v14, v15] 98)) := (Below.refl _ _).alloc (Nat.le_refl _) _
           have HFB := Lib.hid (HF5.out.on hb8)
           have HP8 := Lib.hid (HPX.out.keep (Keeps.any hb8))
           obtain ⟨ys, hown8, hpush⟩ := HFB.out.own.push p HP8.out
           rw [hal] at hown8 hpush
           have HW8 := Lib.hid hown8
           have HPU := Lib.hid hpush
           have HN9 := Lib.hid (Rd.new w5 98 16 1 [v0, v1, v2, v3, v4, v5, v6, v7, v8, v9, v10, v11, v12, v13, v14, v15] rfl)
           have HON := Lib.hid HPX.out.one.2
           have hsz : C + 1 ≤ (w5.alloc (.cells #[v0, v1, v2, v3, v4, v5, v6, v7, v8, v9, v10, v11, v12, v13, v14, v15] 98)).heap.size := Nat.le_trans hC5 hb8.size
           have r8 : (w5.alloc (.cells #[v0, v1, v2, v3, v4, v5, v6, v7, v8, v9, v10, v11, v12, v13, v14, v15] 98)).cell? ⟨w.heap.size, 0, none⟩ = some (.slice Av al cv) := HFB.out.res.cell 0
           clear hb8 hown8 hpush
           go_simp
           try dsimp only
           refine hK.out _ _ trivial (fun _ => ?_)
           clear hK K
           try simp only [Act.put, List.setIfInBounds_toArray, List.set_cons_zero, List.set_cons_succ]
           refine wpTill_one (i := 0) (o := ⟨some 37, _, _, _, _, _⟩) (by kernel_rfl) rfl (fun K hK => ?_)
           go_simp
           try dsimp only
           refine hK.out _ _ trivial (fun _ => ?_)
           clear hK K
           try simp only [Act.put, List.setIfInBounds_toArray, List.set_cons_zero, List.set_cons_succ]
           refine wpTill_one (i := 4) (o := ⟨some 41, _, _, _, _, _⟩) (by kernel_rfl) rfl (fun K hK => ?_)
           refine step_append_rd _ rfl (.tmp 37) (.tmp 40) 41 rfl (C + 1) 98 i0 _ 16 232 Tryz.underlying41 hii z0 z1 z2 rfl (by decide) _ _ _ rfl HW8.out (w5.heap.size + 1) (some ⟨w5.heap.size, 0, none⟩) 1 1 [v0, v1, v2, v3, v4, v5, v6, v7, v8, v9, v10, v11, v12, v13, v14, v15] rfl HN9.out HON.out (by simp only [maxLen]; omega) (by omega) hsz ?_
           intro v' w9 happ
           obtain ⟨A9, c9, he9, _⟩ := (HPU.out v' w9 happ).form
           rw [HL9.out] at he9
           subst he9
           have HF9 := Lib.hid (HFB.out.push HW8.out happ (HPU.out _ w9 happ) hsz)
           have hb9 := happ.below hsz HW8.out
           have x9 : w9.cell? ⟨w.heap.size, 0, none⟩ = some (.slice Av al cv) := (hb9.cell (p := ⟨w.heap.size, 0, none⟩) (show w.heap.size < C + 1 by omega)).trans (HFB.out.res.cell 0)
           have hk9 : Blk w9 w.heap.size 41 #[.slice Av al cv] := (hb9.block w.heap.size (by omega)).trans HFB.out.res
           have y9 := hk9.frozen 0
           have hz9 := hb9.size
           clear happ
           try dsimp only
           refine hK.out _ _ trivial (fun _ => ?_)
           clear hK K
           try simp only [Act.put, List.setIfInBounds_toArray, List.set_cons_zero, List.set_cons_succ]
           refine wpTill_one (i := 5) (by kernel_rfl) rfl (fun K hK => ?_)
           go_simp
           try dsimp only
           refine hK.out _ _ trivial (fun _ => ?_)
           clear hK K
           try simp only [Act.put, List.setIfInBounds_toArray, List.set_cons_zero, List.set_cons_succ]
           refine wpTill_done (by kernel_rfl) ?_ _
           go_wp2_with fail
           go_meet
           exact ⟨_, HF9.out, by simpa using Nat.le_trans hsz hz9⟩
        -- ok}
       case rest =>
        obtain ⟨v6, hf6, hC6⟩ := hcut
        have HF6 := Lib.hid hf6
        have hal2 : al < 200 := by have := HM.out; omega
        clear hf6 r4
        go_wp2_with fail
        refine (HSP.out _ j2 HF6.out.cur).mono ?_
        rintro e w7 ⟨rfl, hc7, hb7⟩
        have HF7 := Lib.hid (HF6.out.step hc7 hb7)
        have hC7 : C + 1 ≤ w7.heap.size := Nat.le_trans hC6 hb7.1
        clear hc7 hb7
        obtain ⟨b, hb⟩ : ∃ b, spaceP L j2 = b := ⟨_, rfl⟩
        have HB := Lib.hid hb
        rw [hb] at HF7
        clear hb
        have HN7 := Lib.hid (HND.out _ b 59 HF7.out.cur (by decide))
        cases hnd : needP L b 59 with
        | error e0 =>
          obtain ⟨x, q⟩ := e0
          have HE := Lib.hid (HGO.out.trans (fileF_need (by rw [HA.out]; have := HNG.out; omega) (by rw [hal]; exact HM.out) (by rw [HA.out]; exact HP.out) (by rw [HB.out]; exact hnd)))
          have HRES := Lib.hid (HERR.out x q HE.out)
          have hx := HXN.out x q HE.out
          rw [hnd] at HN7
          clear hnd
          go_wp2_with fail
          refine HN7.out.mono ?_
          rintro e w8 ⟨he, hb8⟩
          unfold thrown at he
          subst he
          have hr8 := (hb8.2.2.2.2 _ HF7.out.res.lt (by omega)).trans HF7.out.res
          have hf8 := (hb8.2.2.2.2 _ HF7.out.flt.lt (by omega)).trans HF7.out.flt
          have HR8 := Lib.hid hr8
          have HF8 := Lib.hid hf8
          have HB8 := Lib.hid (HF7.out.below.trans (hb8.to HF7.out.below.size (by omega)))
          clear hb8 hr8 hf8
          go_wp2_with fail
          refine rules_thrown _ (w.heap.size + 1) w.heap.size w.heap.size x q 0 0 _ _ _ _ _ rfl rfl HF8.out HR8.out (by omega) (by omega) (Nat.le_refl _) HB8.out.size hx (fun W2 hb2 => ?_)
          rw [HRES.out]
          exact ⟨⟨none, 0, 0, rfl, PartsX.nil _ _, Nat.le_refl _⟩, HB8.out.trans hb2⟩
        | ok k =>
          have HST := Lib.hid (HGO.out.trans (fileF_step (by rw [HA.out]; have := HNG.out; omega) (by rw [hal]; exact HM.out) (by rw [HA.out]; exact HP.out) (by rw [HB.out]; exact hnd)))
          have HKB := Lib.hid (show k = b + 1 from (needP_ok hnd).1)
          have HPL := Lib.hid (partR_le HV.out.ok (by rw [HLN.out]; exact han) HP.out)
          rw [hnd] at HN7
          clear hnd
          go_wp2_with fail
          refine HN7.out.mono ?_
          rintro e w8 ⟨rfl, hc8, hb8⟩
          have HF8 := Lib.hid (HF7.out.step hc8 hb8)
          have hC8 : C + 1 ≤ w8.heap.size := Nat.le_trans hC7 hb8.1
          clear hc8 hb8
          go_wp2_with fail
          refine (HSP.out _ k HF8.out.cur).mono ?_
          rintro e w9 ⟨rfl, hc9, hb9⟩
          have HF9 := Lib.hid (HF8.out.step hc9 hb9)
          have hC9 : C + 1 ≤ w9.heap.size := Nat.le_trans hC8 hb9.1
          clear hc9 hb9
          go_wp2_with fail
          have hge : a ≤ b := by have h1 := HPL.out.1; have h2 := spaceP_ge L j2; rw [HB.out] at h2; omega
          have hkb := HKB.out
          have hkn := HF8.out.cur.le
          refine ⟨⟨f, k, acc ++ [p], v6, hkn, by omega, HST.out, by rw [List.length_append, hal]; simp; omega, HF9.out, hC9⟩, ?_⟩
          have e1 : w9.cell? ⟨C, 1, none⟩ = some (.int .i64 ((spaceP L k : Nat) : Int)) := HF9.out.cur.blk.cell 1
          have e2 := HM0.out
          have hle := HF9.out.cur.le
          have hge2 := spaceP_ge L k
          rw [e1, e2]
          simp only [Int.toNat_natCast, List.getElem?_toArray, List.getElem?_cons_succ, List.getElem?_cons_zero]
          omega
end Go.Proofs.YthnhbcohfoodlaaGreatDoor
