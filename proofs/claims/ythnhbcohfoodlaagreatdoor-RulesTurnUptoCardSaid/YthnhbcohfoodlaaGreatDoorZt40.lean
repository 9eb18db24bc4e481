/- CurClass + SetFr -/
import Derived.Test.YthnhbcohfoodlaaGreatDoorZt37
import Derived.Test.YthnhbcohfoodlaaGreatDoorZt31
namespace Go.Proofs.YthnhbcohfoodlaaGreatDoor
open Go.RowKit
def RnRel (p : Int → Bool) (w : World) (C : Nat) (A : Option Addr) (n c : Nat) (L : List Int) (a r : Nat) (wr : World) : Prop :=
 ∃ j, a ≤ j ∧ j ≤ n ∧ r = runFrom p L j ∧ CurAt wr C A n c L j ∧ But w C wr
theorem classP_e1 {L : List Int} {i r : Nat} (hr : runFrom plainB L (i + 2) = r) (h : classOf (textAt L (i + 2) r) = none) : classP L i = .error (7, i + 2) := by subst hr; unfold classP; rw [h]
theorem classP_e2 {L : List Int} {i r : Nat} {s : Spans} {e : Int × Nat} (hr : runFrom plainB L (i + 2) = r) (h : classOf (textAt L (i + 2) r) = some s) (h2 : needP L r 58 = .error e) : classP L i = .error e := by subst hr; unfold classP; rw [h]; simp only; rw [h2]
theorem classP_e3 {L : List Int} {i r j : Nat} {s : Spans} {e : Int × Nat} (hr : runFrom plainB L (i + 2) = r) (h : classOf (textAt L (i + 2) r) = some s) (h2 : needP L r 58 = .ok j) (h3 : needP L j 93 = .error e) : classP L i = .error e := by subst hr; unfold classP; rw [h]; simp only; rw [h2]; simp only; rw [h3]
theorem classP_k {L : List Int} {i r j k : Nat} {s : Spans} (hr : runFrom plainB L (i + 2) = r) (h : classOf (textAt L (i + 2) r) = some s) (h2 : needP L r 58 = .ok j) (h3 : needP L j 93 = .ok k) : classP L i = .ok (s, k) := by subst hr; unfold classP; rw [h]; simp only; rw [h2]; simp only; rw [h3]
theorem runesBytes_small (l : List Int) (h : l.length ≤ 4611686018427387904) (h2 : l.length ≤ 100000) : (runesBytes l).size ≤ maxLen := by
 have := runesBytes_size_le l
 simp only [maxLen]
 omega
set_option maxHeartbeats 6400000 in
set_option maxRecDepth 100000 in
theorem cur_class (w : World) (C : Nat) (A : Option Addr) (n c : Nat) (L : List Int) (i : Nat) (h : CurAt w C A n c L i) (hL : ValidL L) (hi : i + 2 ≤ n) (hn : n ≤ 100000) :
 Calls Tryz.prog 78 #[.pointer (some ⟨C, 0, none⟩)] w (SetPost w C A n c L (classP L i)) := by
 have hs := h.size
 have hlen := h.len
 obtain ⟨b, off, rfl, _, _⟩ := h.at (by omega)
 have HL := Lib.hid hL
 have c0 := h.blk.cell 0
 have c1 := h.blk.cell 1
 have f1 := h.blk.frozen 1
 have hw1 : IntKind.i64.wrap ((i : Int) + 2) = (i : Int) + 2 := wrap_small _ (by omega) (by omega)
 have hm := h.move (j := i + 2) hi
 have hB1 := But.set w C 1 (.int .i64 ((i + 2 : Nat) : Int))
 rw [show (((i + 2 : Nat)) : Int) = (i : Int) + 2 by omega] at hm hB1
 have HM := Lib.hid hm
 have HB1 := Lib.hid hB1
 obtain ⟨R, hR⟩ : ∃ R, classP L i = R := ⟨_, rfl⟩
 rw [hR]
 have HR0 := Lib.hid hR
 clear hL hm h hB1 hR
 obtain ⟨r, hr⟩ : ∃ r, runFrom plainB L (i + 2) = r := ⟨_, rfl⟩
 have HRR := Lib.hid hr
 have hi2 : ((i + 2 : Nat) : Int) = (i : Int) + 2 := by omega
 obtain ⟨a, ha⟩ : ∃ a, i + 2 = a := ⟨_, rfl⟩
 have haI : (i : Int) + 2 = (a : Int) := by omega
 have HA := Lib.hid ha
 rw [haI] at HM HB1 hw1
 rw [ha] at HM
 clear hr hi2
 go_enter Tryz.func78, Tryz.ntmps78
 go_wp2_with fail
 go_loopw [17] (fun _ wr => RnRel plainB w C (some ⟨b, off, none⟩) n c L a r wr) (fun _ wr => n - (match wr.cell? ⟨C, 1, none⟩ with | some (.int _ j) => j.toNat | _ => 0))
 case atStart => exact ⟨a, Nat.le_refl _, HM.out.le, by rw [← HRR.out, HA.out], HM.out, HB1.out⟩
 case round =>
  obtain ⟨j, haj, hj, hrun, hcj, hbj⟩ := hrel
  have HJ := Lib.hid hcj
  have HB := Lib.hid hbj
  have HR := Lib.hid hrun
  have HPK := Lib.hid (fun (W : World) (h : CurAt W C (some ⟨b, off, none⟩) n c L j) => cur_peek2 W C (some ⟨b, off, none⟩) n c L j h)
  have HM0 := Lib.hid (hcj.blk.cell 1)
  have HPL := Lib.hid (fun (W : World) => syn_plain (pk L j) W (HL.out.pk j))
  clear hcj hbj hrun
  by_cases hhx : plainB (pk L j) = true
  ·rw [hhx] at HPL
   have hlt : j < L.length := pk_lt (fun e => by rw [e] at hhx; exact absurd hhx (by decide))
   have hw2 : IntKind.i64.wrap ((j : Int) + 1) = (j : Int) + 1 := wrap_small _ (by omega) (by omega)
   go_wp2_with fail
   refine (HPK.out _ HJ.out).mono ?_
   rintro e w2 ⟨rfl, hc2, hb2⟩
   have HC2 := Lib.hid hc2
   have HB2 := Lib.hid (HB.out.trans hb2)
   clear hc2 hb2
   go_wp2_with fail
   refine (HPL.out _).mono ?_
   rintro e w3 ⟨rfl, hb3⟩
   have HC3 := Lib.hid (HC2.out.below hb3)
   have HB3 := Lib.hid (HB2.out.trans (But.below C hb3))
   clear hb3
   obtain ⟨d1, d2, d3, d4⟩ := HC3.out.step (by omega)
   have HMV := Lib.hid d3
   have HB4 := Lib.hid (HB3.out.trans d4)
   clear d3 d4
   go_wp2_with fail
   refine ⟨⟨j + 1, by omega, by omega, HR.out.trans (runFrom_in hlt hhx), HMV.out, HB4.out⟩, ?_⟩
   have e1 : (w3.setCell ⟨C, 1, none⟩ (.int .i64 ((j : Int) + 1))).cell? ⟨C, 1, none⟩ = some (.int .i64 ((j + 1 : Nat) : Int)) := HMV.out.blk.cell 1
   have e2 : wr.cell? ⟨C, 1, none⟩ = some (.int .i64 (j : Int)) := HM0.out
   rw [e1, e2]
   simp only [Int.toNat_natCast]
   omega
  ·rw [Bool.not_eq_true] at hhx
   rw [hhx] at HPL
   obtain rfl : r = j := HR.out.trans (runFrom_out (fun _ => hhx))
   clear HR
   go_wp2_with fail
   refine (HPK.out _ HJ.out).mono ?_
   rintro e w2 ⟨rfl, hc2, hb2⟩
   have HC2 := Lib.hid hc2
   have HB2 := Lib.hid (HB.out.trans hb2)
   clear hc2 hb2
   go_wp2_with fail
   refine (HPL.out _).mono ?_
   rintro e w3 ⟨rfl, hb3⟩
   have HC3 := Lib.hid (HC2.out.below hb3)
   have HB3 := Lib.hid (HB2.out.trans (But.below C hb3))
   have HDR := Lib.hid (show Below w3.heap.size w3 w3.drew from (Below.refl _ _).drew)
   clear hb3
   have d0 := HC3.out.blk.cell 0
   have d1 := HC3.out.blk.cell 1
   have hcv := cur_text (HC3.out.drewN 1) haj hj
   have hk1 : (a : Int) ≤ (r : Int) := by omega
   have hk2 : (r : Int) ≤ (c : Int) := by have := HC3.out.cap; omega
   have hk3 : (0 : Int) ≤ (a : Int) := by omega
   have hts : (runesBytes (textAt L a r)).size ≤ maxLen := runesBytes_small _ (by unfold textAt; rw [List.length_take]; omega) (by unfold textAt; rw [List.length_take]; omega)
   have HCT := Lib.hid (class_text (textAt L a r))
   generalize runesBytes (textAt L a r) = T at *
   have HCL := Lib.hid (fun (W : World) => syn_class T W hts)
   clear hts
   cases hcl : classOf (textAt L a r) with
   | none =>
     have HT := Lib.hid (HCT.out.trans hcl)
     have HRN := Lib.hid (show R = .error (7, i + 2) from HR0.out.symm.trans (classP_e1 HRR.out (by rw [HA.out]; exact hcl)))
     clear hcl
     go_upto_region 5 with fail
     refine wp_region_till (S := (fun w' => w'.cell? ⟨C, 0, none⟩ = some (.slice (some ⟨b, off, none⟩) n c) ∧ w'.cell? ⟨C, 1, none⟩ = some (.int .i64 r) ∧ (convert 61 9 (.slice (if c = a then some ⟨b, off, none⟩ else some ⟨b, off + a, none⟩) (r - a) (c - a))).run Tryz.prog w' = .ok (.string T) w')) [3, 8, 10] (by kernel_rfl) ⟨d0, d1, hcv⟩ (fun hHeld => ?_)
     refine wpTill_pure (i := 0) (oi := ⟨some 28, _, _, _, _, _⟩) (v := ?_) rfl (by kernel_rfl) (by kernel_rfl) (by kernel_rfl) (fun _ _ _ h => h) (Or.inl ⟨by rfl, ?_⟩) ?_
     rotate_left 1
     ·intro wq _
      go_simp
      try with_reducible rfl
     try simp only [Act.put, List.setIfInBounds_toArray, List.set_cons_zero, List.set_cons_succ]
     refine wpTill_pure (i := 1) (oi := ⟨some 29, _, _, _, _, _⟩) (v := ?_) rfl (by kernel_rfl) (by kernel_rfl) (by kernel_rfl) (fun _ _ _ h => h) (Or.inl ⟨by rfl, ?_⟩) ?_
     rotate_left 1
     ·intro wq _
      go_simp
      try with_reducible rfl
     try simp only [Act.put, List.setIfInBounds_toArray, List.set_cons_zero, List.set_cons_succ]
     refine wpTill_pure (i := 2) (oi := ⟨some 30, _, _, _, _, _⟩) (v := ?_) rfl (by kernel_rfl) (by kernel_rfl) (by kernel_rfl) (fun _ _ _ h => h) (Or.inl ⟨by rfl, ?_⟩) ?_
     rotate_left 1
     ·intro wq _
      go_simp
      try with_reducible rfl
     try simp only [Act.put, List.setIfInBounds_toArray, List.set_cons_zero, List.set_cons_succ]
     refine wpTill_take (i := 3) (oi := ⟨some 31, _, _, _, _, _⟩) (v := ?_) rfl (by kernel_rfl) (by kernel_rfl) (by kernel_rfl) (by kernel_rfl) (by kernel_rfl) (fun _ _ _ h => h) (Or.inl ⟨by rfl, ?_⟩) (by assumption) ?_
     rotate_left 1
     ·intro wq hSw
      (try dsimp only at hSw)
      go_simp
      try with_reducible rfl
     try simp only [Act.put, List.setIfInBounds_toArray, List.set_cons_zero, List.set_cons_succ]
     refine wpTill_pure (i := 4) (oi := ⟨some 32, _, _, _, _, _⟩) (v := ?_) rfl (by kernel_rfl) (by kernel_rfl) (by kernel_rfl) (fun _ _ _ h => h) (Or.inl ⟨by rfl, ?_⟩) ?_
     rotate_left 1
     ·intro wq _
      go_simp
      try with_reducible rfl
     try simp only [Act.put, List.setIfInBounds_toArray, List.set_cons_zero, List.set_cons_succ]
     refine wpTill_pure (i := 5) (oi := ⟨some 33, _, _, _, _, _⟩) (v := ?_) rfl (by kernel_rfl) (by kernel_rfl) (by kernel_rfl) (fun _ _ _ h => h) (Or.inl ⟨by rfl, ?_⟩) ?_
     rotate_left 1
     ·intro wq _
      go_simp
      try with_reducible rfl
     try simp only [Act.put, List.setIfInBounds_toArray, List.set_cons_zero, List.set_cons_succ]
     refine wpTill_pure (i := 6) (oi := ⟨some 34, _, _, _, _, _⟩) (v := ?_) rfl (by kernel_rfl) (by kernel_rfl) (by kernel_rfl) (fun _ _ _ h => h) (Or.inl ⟨by rfl, ?_⟩) ?_
     rotate_left 1
     ·intro wq _
      go_simp
      try with_reducible rfl
     try simp only [Act.put, List.setIfInBounds_toArray, List.set_cons_zero, List.set_cons_succ]
     refine wpTill_pure (i := 7) (oi := ⟨some 35, _, _, _, _, _⟩) (v := ?_) rfl (by kernel_rfl) (by kernel_rfl) (by kernel_rfl) (fun _ _ _ h => h) (Or.inl ⟨by rfl, ?_⟩) ?_
     rotate_left 1
     ·intro wq _
      go_simp
      try with_reducible rfl
     try simp only [Act.put, List.setIfInBounds_toArray, List.set_cons_zero, List.set_cons_succ]
     refine wpTill_take (i := 8) (oi := ⟨some 36, _, _, _, _, _⟩) (v := ?_) rfl (by kernel_rfl) (by kernel_rfl) (by kernel_rfl) (by kernel_rfl) (by kernel_rfl) (fun _ _ _ h => h) (Or.inl ⟨by rfl, ?_⟩) (by assumption) ?_
     rotate_left 1
     ·intro wq hSw
      (try dsimp only at hSw)
      go_simp
      try with_reducible rfl
     try simp only [Act.put, List.setIfInBounds_toArray, List.set_cons_zero, List.set_cons_succ]
     refine wpTill_pure (i := 9) (oi := ⟨some 37, _, _, _, _, _⟩) (v := ?_) rfl (by kernel_rfl) (by kernel_rfl) (by kernel_rfl) (fun _ _ _ h => h) (Or.inl ⟨by rfl, ?_⟩) ?_
     rotate_left 1
     ·intro wq _
      go_simp
      try with_reducible rfl
     try simp only [Act.put, List.setIfInBounds_toArray, List.set_cons_zero, List.set_cons_succ]
     refine wpTill_take (i := 10) (oi := ⟨some 38, _, _, _, _, _⟩) (v := ?_) rfl (by kernel_rfl) (by kernel_rfl) (by kernel_rfl) (by kernel_rfl) (by kernel_rfl) (fun _ _ _ h => h) (Or.inl ⟨by rfl, ?_⟩) (by assumption) ?_
     rotate_left 1
     ·intro wq hSw
      (try dsimp only at hSw)
      go_simp
      try with_reducible rfl
     try simp only [Act.put, List.setIfInBounds_toArray, List.set_cons_zero, List.set_cons_succ]
     refine wpTill_late (i := 11) (o := ⟨some 39, _, _, _, _, _⟩) (by kernel_rfl) rfl (by kernel_rfl) (fun K hK => ?_)
     go_simp
     go_at_call 129
     refine (HCL.out _).mono ?_
     rintro e w6 hp6
     unfold ClassPost at hp6
     rw [HT.out] at hp6
     obtain ⟨rfl, hb6⟩ := hp6
     try dsimp only
     refine hK.out _ _ ?_
     clear hK K
     try simp only [Act.put, List.setIfInBounds_toArray, List.set_cons_zero, List.set_cons_succ]
     refine wpTill_pure (i := 12) (oi := ⟨some 27, _, _, _, _, _⟩) (v := ?_) rfl (by kernel_rfl) (by kernel_rfl) (by kernel_rfl) (fun _ _ _ h => h) (Or.inl ⟨by rfl, ?_⟩) ?_
     rotate_left 1
     ·intro wq _
      go_simp
      try with_reducible rfl
     try simp only [Act.put, List.setIfInBounds_toArray, List.set_cons_zero, List.set_cons_succ]
     refine wpTill_pure (i := 13) (oi := ⟨some 40, _, _, _, _, _⟩) (v := ?_) rfl (by kernel_rfl) (by kernel_rfl) (by kernel_rfl) (fun _ _ _ h => h) (Or.inl ⟨by rfl, ?_⟩) ?_
     rotate_left 1
     ·intro wq _
      go_simp
      try with_reducible rfl
     try simp only [Act.put, List.setIfInBounds_toArray, List.set_cons_zero, List.set_cons_succ]
     refine wpTill_pure (i := 14) (oi := ⟨some 41, _, _, _, _, _⟩) (v := ?_) rfl (by kernel_rfl) (by kernel_rfl) (by kernel_rfl) (fun _ _ _ h => h) (Or.inl ⟨by rfl, ?_⟩) ?_
     rotate_left 1
     ·intro wq _
      go_simp
      try with_reducible rfl
     try simp only [Act.put, List.setIfInBounds_toArray, List.set_cons_zero, List.set_cons_succ]
     refine wpTill_pure (i := 15) (oi := ⟨some 4, _, _, _, _, _⟩) (v := ?_) rfl (by kernel_rfl) (by kernel_rfl) (by kernel_rfl) (fun _ _ _ h => h) (Or.inl ⟨by rfl, ?_⟩) ?_
     rotate_left 1
     ·intro wq _
      go_simp
      try with_reducible rfl
     try simp only [Act.put, List.setIfInBounds_toArray, List.set_cons_zero, List.set_cons_succ]
     refine wpTill_pure (i := 16) (oi := ⟨some 5, _, _, _, _, _⟩) (v := ?_) rfl (by kernel_rfl) (by kernel_rfl) (by kernel_rfl) (fun _ _ _ h => h) (Or.inl ⟨by rfl, ?_⟩) ?_
     rotate_left 1
     ·intro wq _
      go_simp
      try with_reducible rfl
     try simp only [Act.put, List.setIfInBounds_toArray, List.set_cons_zero, List.set_cons_succ]
     refine wpTill_done (by kernel_rfl) ?_ _
     generalize (if c = a then some ({ block := b, off := off } : Addr) else some { block := b, off := off + a }) = Z
     have HB6 := Lib.hid (HB3.out.trans (But.below C (HDR.out.trans (Below.mono hb6 (Nat.le_refl _)))))
     have HF := Lib.hid (fun (W : World) => syn_fail 7 a W)
     clear hb6
     go_simp
     go_wp2_with fail
     refine (HF.out _).mono ?_
     rintro e w7 ⟨rfl, rfl⟩
     go_wp2_with fail
     rw [HRN.out, HA.out]
     exact ⟨rfl, rfl, HB6.out⟩
   | some s =>
     have HT := Lib.hid (HCT.out.trans hcl)
     have HCLO := Lib.hid (show classOf (textAt L (i + 2) r) = some s by rw [HA.out]; exact hcl)
     clear hcl
     go_upto_region 5 with fail
     refine wp_region_till (S := (fun w' => w'.cell? ⟨C, 0, none⟩ = some (.slice (some ⟨b, off, none⟩) n c) ∧ w'.cell? ⟨C, 1, none⟩ = some (.int .i64 r) ∧ (convert 61 9 (.slice (if c = a then some ⟨b, off, none⟩ else some ⟨b, off + a, none⟩) (r - a) (c - a))).run Tryz.prog w' = .ok (.string T) w')) [3, 8, 10] (by kernel_rfl) ⟨d0, d1, hcv⟩ (fun hHeld => ?_)
     refine wpTill_pure (i := 0) (oi := ⟨some 28, _, _, _, _, _⟩) (v := ?_) rfl (by kernel_rfl) (by kernel_rfl) (by kernel_rfl) (fun _ _ _ h => h) (Or.inl ⟨by rfl, ?_⟩) ?_
     rotate_left 1
     ·intro wq _
      go_simp
      try with_reducible rfl
     try simp only [Act.put, List.setIfInBounds_toArray, List.set_cons_zero, List.set_cons_succ]
     refine wpTill_pure (i := 1) (oi := ⟨some 29, _, _, _, _, _⟩) (v := ?_) rfl (by kernel_rfl) (by kernel_rfl) (by kernel_rfl) (fun _ _ _ h => h) (Or.inl ⟨by rfl, ?_⟩) ?_
     rotate_left 1
     ·intro wq _
      go_simp
      try with_reducible rfl
     try simp only [Act.put, List.setIfInBounds_toArray, List.set_cons_zero, List.set_cons_succ]
     refine wpTill_pure (i := 2) (oi := ⟨some 30, _, _, _, _, _⟩) (v := ?_) rfl (by kernel_rfl) (by kernel_rfl) (by kernel_rfl) (fun _ _ _ h => h) (Or.inl ⟨by rfl, ?_⟩) ?_
     rotate_left 1
     ·intro wq _
      go_simp
      try with_reducible rfl
     try simp only [Act.put, List.setIfInBounds_toArray, List.set_cons_zero, List.set_cons_succ]
     refine wpTill_take (i := 3) (oi := ⟨some 31, _, _, _, _, _⟩) (v := ?_) rfl (by kernel_rfl) (by kernel_rfl) (by kernel_rfl) (by kernel_rfl) (by kernel_rfl) (fun _ _ _ h => h) (Or.inl ⟨by rfl, ?_⟩) (by assumption) ?_
     rotate_left 1
     ·intro wq hSw
      (try dsimp only at hSw)
      go_simp
      try with_reducible rfl
     try simp only [Act.put, List.setIfInBounds_toArray, List.set_cons_zero, List.set_cons_succ]
     refine wpTill_pure (i := 4) (oi := ⟨some 32, _, _, _, _, _⟩) (v := ?_) rfl (by kernel_rfl) (by kernel_rfl) (by kernel_rfl) (fun _ _ _ h => h) (Or.inl ⟨by rfl, ?_⟩) ?_
     rotate_left 1
     ·intro wq _
      go_simp
      try with_reducible rfl
     try simp only [Act.put, List.setIfInBounds_toArray, List.set_cons_zero, List.set_cons_succ]
     refine wpTill_pure (i := 5) (oi := ⟨some 33, _, _, _, _, _⟩) (v := ?_) rfl (by kernel_rfl) (by kernel_rfl) (by kernel_rfl) (fun _ _ _ h => h) (Or.inl ⟨by rfl, ?_⟩) ?_
     rotate_left 1
     ·intro wq _
      go_simp
      try with_reducible rfl
     try simp only [Act.put, List.setIfInBounds_toArray, List.set_cons_zero, List.set_cons_succ]
     refine wpTill_pure (i := 6) (oi := ⟨some 34, _, _, _, _, _⟩) (v := ?_) rfl (by kernel_rfl) (by kernel_rfl) (by kernel_rfl) (fun _ _ _ h => h) (Or.inl ⟨by rfl, ?_⟩) ?_
     rotate_left 1
     ·intro wq _
      go_simp
      try with_reducible rfl
     try simp only [Act.put, List.setIfInBounds_toArray, List.set_cons_zero, List.set_cons_succ]
     refine wpTill_pure (i := 7) (oi := ⟨some 35, _, _, _, _, _⟩) (v := ?_) rfl (by kernel_rfl) (by kernel_rfl) (by kernel_rfl) (fun _ _ _ h => h) (Or.inl ⟨by rfl, ?_⟩) ?_
     rotate_left 1
     ·intro wq _
      go_simp
      try with_reducible rfl
     try simp only [Act.put, List.setIfInBounds_toArray, List.set_cons_zero, List.set_cons_succ]
     refine wpTill_take (i := 8) (oi := ⟨some 36, _, _, _, _, _⟩) (v := ?_) rfl (by kernel_rfl) (by kernel_rfl) (by kernel_rfl) (by kernel_rfl) (by kernel_rfl) (fun _ _ _ h => h) (Or.inl ⟨by rfl, ?_⟩) (by assumption) ?_
     rotate_left 1
     ·intro wq hSw
      (try dsimp only at hSw)
      go_simp
      try with_reducible rfl
     try simp only [Act.put, List.setIfInBounds_toArray, List.set_cons_zero, List.set_cons_succ]
     refine wpTill_pure (i := 9) (oi := ⟨some 37, _, _, _, _, _⟩) (v := ?_) rfl (by kernel_rfl) (by kernel_rfl) (by kernel_rfl) (fun _ _ _ h => h) (Or.inl ⟨by rfl, ?_⟩) ?_
     rotate_left 1
     ·intro wq _
      go_simp
      try with_reducible rfl
     try simp only [Act.put, List.setIfInBounds_toArray, List.set_cons_zero, List.set_cons_succ]
     refine wpTill_take (i := 10) (oi := ⟨some 38, _, _, _, _, _⟩) (v := ?_) rfl (by kernel_rfl) (by kernel_rfl) (by kernel_rfl) (by kernel_rfl) (by kernel_rfl) (fun _ _ _ h => h) (Or.inl ⟨by rfl, ?_⟩) (by assumption) ?_
     rotate_left 1
     ·intro wq hSw
      (try dsimp only at hSw)
      go_simp
      try with_reducible rfl
     try simp only [Act.put, List.setIfInBounds_toArray, List.set_cons_zero, List.set_cons_succ]
     refine wpTill_late (i := 11) (o := ⟨some 39, _, _, _, _, _⟩) (by kernel_rfl) rfl (by kernel_rfl) (fun K hK => ?_)
     go_simp
     go_at_call 129
     refine (HCL.out _).mono ?_
     rintro e w6 hp6
     unfold ClassPost at hp6
     rw [HT.out] at hp6
     obtain ⟨⟨A6, n6, c6, rfl, hr6, hc6⟩, hb6⟩ := hp6
     try dsimp only
     refine hK.out _ _ ?_
     clear hK K
     try simp only [Act.put, List.setIfInBounds_toArray, List.set_cons_zero, List.set_cons_succ]
     refine wpTill_pure (i := 12) (oi := ⟨some 27, _, _, _, _, _⟩) (v := ?_) rfl (by kernel_rfl) (by kernel_rfl) (by kernel_rfl) (fun _ _ _ h => h) (Or.inl ⟨by rfl, ?_⟩) ?_
     rotate_left 1
     ·intro wq _
      go_simp
      try with_reducible rfl
     try simp only [Act.put, List.setIfInBounds_toArray, List.set_cons_zero, List.set_cons_succ]
     refine wpTill_pure (i := 13) (oi := ⟨some 40, _, _, _, _, _⟩) (v := ?_) rfl (by kernel_rfl) (by kernel_rfl) (by kernel_rfl) (fun _ _ _ h => h) (Or.inl ⟨by rfl, ?_⟩) ?_
     rotate_left 1
     ·intro wq _
      go_simp
      try with_reducible rfl
     try simp only [Act.put, List.setIfInBounds_toArray, List.set_cons_zero, List.set_cons_succ]
     refine wpTill_pure (i := 14) (oi := ⟨some 41, _, _, _, _, _⟩) (v := ?_) rfl (by kernel_rfl) (by kernel_rfl) (by kernel_rfl) (fun _ _ _ h => h) (Or.inl ⟨by rfl, ?_⟩) ?_
     rotate_left 1
     ·intro wq _
      go_simp
      try with_reducible rfl
     try simp only [Act.put, List.setIfInBounds_toArray, List.set_cons_zero, List.set_cons_succ]
     refine wpTill_pure (i := 15) (oi := ⟨some 4, _, _, _, _, _⟩) (v := ?_) rfl (by kernel_rfl) (by kernel_rfl) (by kernel_rfl) (fun _ _ _ h => h) (Or.inl ⟨by rfl, ?_⟩) ?_
     rotate_left 1
     ·intro wq _
      go_simp
      try with_reducible rfl
     try simp only [Act.put, List.setIfInBounds_toArray, List.set_cons_zero, List.set_cons_succ]
     refine wpTill_pure (i := 16) (oi := ⟨some 5, _, _, _, _, _⟩) (v := ?_) rfl (by kernel_rfl) (by kernel_rfl) (by kernel_rfl) (fun _ _ _ h => h) (Or.inl ⟨by rfl, ?_⟩) ?_
     rotate_left 1
     ·intro wq _
      go_simp
      try with_reducible rfl
     try simp only [Act.put, List.setIfInBounds_toArray, List.set_cons_zero, List.set_cons_succ]
     refine wpTill_done (by kernel_rfl) ?_ _
     generalize (if c = a then some ({ block := b, off := off } : Addr) else some { block := b, off := off + a }) = Z
     have HC6 := Lib.hid ((HC3.out.drewN 1).below hb6)
     have HB6 := Lib.hid (HB3.out.trans (But.below C (HDR.out.trans (Below.mono hb6 (Nat.le_refl _)))))
     have HR6 := Lib.hid (hr6.lift (X' := fun b => b ≠ C ∧ w.heap.size ≤ b) (fun b h => ⟨fun e => by have := HC3.out.blk.lt; have h2 : w3.heap.size ≤ b := h; omega, Nat.le_trans HB3.out.1 h⟩))
     clear hb6 hr6
     have HN := Lib.hid (cur_need w6 C _ n c L r 58 HC6.out (by decide))
     go_simp
     cases hn : needP L r 58 with
     | error e0 =>
       obtain ⟨x, p⟩ := e0
       rw [hn] at HN
       have HRN := Lib.hid (HR0.out.symm.trans (classP_e2 HRR.out HCLO.out hn))
       clear hn
       go_wp2_with fail
       refine HN.out.mono ?_
       rintro e w7 ⟨he, hb⟩
       unfold thrown at he
       subst he
       have HB7 := Lib.hid (HB6.out.trans hb)
       clear hb
       go_wp2_with fail
       rw [HRN.out]
       exact ⟨rfl, rfl, HB7.out⟩
     | ok j2 =>
       rw [hn] at HN
       have HN1 := Lib.hid hn
       clear hn
       go_wp2_with fail
       refine HN.out.mono ?_
       rintro e w7 ⟨rfl, hc, hb⟩
       have HC7 := Lib.hid hc
       have HB7 := Lib.hid (HB6.out.trans hb)
       have HR7 := Lib.hid (HR6.out.keep (hb.keeps (X' := fun b => b ≠ C ∧ w.heap.size ≤ b) (fun b h => h.1) (fun b h _ => h)))
       clear hb hc
       have HN2 := Lib.hid (cur_need w7 C _ n c L j2 93 HC7.out (by decide))
       cases hn : needP L j2 93 with
       | error e0 =>
         obtain ⟨x, p⟩ := e0
         rw [hn] at HN2
         have HRN := Lib.hid (HR0.out.symm.trans (classP_e3 HRR.out HCLO.out HN1.out hn))
         clear hn
         go_wp2_with fail
         refine HN2.out.mono ?_
         rintro e w8 ⟨he, hb⟩
         unfold thrown at he
         subst he
         have HB8 := Lib.hid (HB7.out.trans hb)
         clear hb
         go_wp2_with fail
         rw [HRN.out]
         exact ⟨rfl, rfl, HB8.out⟩
       | ok k2 =>
         rw [hn] at HN2
         have HRN := Lib.hid (HR0.out.symm.trans (classP_k HRR.out HCLO.out HN1.out hn))
         clear hn
         go_wp2_with fail
         refine HN2.out.mono ?_
         rintro e w8 ⟨rfl, hc, hb⟩
         have HC8 := Lib.hid hc
         have HB8 := Lib.hid (HB7.out.trans hb)
         have HR8 := Lib.hid (HR7.out.keep (hb.keeps (X' := fun b => w.heap.size ≤ b) (fun b h => h.1) (fun b h _ => h.2)))
         clear hb hc
         go_wp2_with fail
         go_ret
         rw [HRN.out]
         exact ⟨⟨A6, n6, c6, rfl, HR8.out, hc6⟩, HC8.out, HB8.out⟩
end Go.Proofs.YthnhbcohfoodlaaGreatDoor

namespace Go.Proofs.YthnhbcohfoodlaaGreatDoor
open Go.RowKit
theorem CurAt.apart {w : World} {C G : Nat} {A : Option Addr} {n c : Nat} {L : List Int} {i : Nat} {t : TypeId} {v : Value} (h : CurAt w C A n c L i) (hG : Blk w G t #[v]) (hv : ∀ x, v ≠ .int .i32 x) : RdX w (fun b => b ≠ C ∧ b ≠ G) 1 A n (runeCells L) := by
 refine ⟨h.row.1, fun hn => ?_⟩
 obtain ⟨b, off, e, hb, hl, hc⟩ := h.row.2 hn
 refine ⟨b, off, e, ⟨hb, fun he => ?_⟩, hl, hc⟩
 subst he
 have hlen := h.len
 obtain ⟨x, hx⟩ : ∃ x, L[0]? = some x := ⟨_, List.getElem?_eq_getElem (by omega)⟩
 have h1 := hc 0 (.int .i32 x) (by rw [runeCells_at, hx]; rfl)
 rw [hG.cell] at h1
 rcases off with _ | off
 ·simp at h1
  exact hv x h1
 ·simp at h1
theorem CurAt.set {w : World} {C G : Nat} {A : Option Addr} {n c : Nat} {L : List Int} {i : Nat} {t : TypeId} {v : Value} (h : CurAt w C A n c L i) (hG : Blk w G t #[v]) (hv : ∀ x, v ≠ .int .i32 x) (hne : C ≠ G) (u : Value) : CurAt (w.setCell ⟨G, 0, none⟩ u) C A n c L i := by
 have hk : But w G (w.setCell ⟨G, 0, none⟩ u) := But.set _ _ _ _
 exact ⟨h.blk.same (hk.2.2.2.2 C h.blk.lt hne), (h.apart hG hv).keep (hk.keeps (fun b h => h.2) (fun b h _ => h.1)), h.size, h.le, h.cap⟩
structure SetFr (w : World) (C P G : Nat) (A : Option Addr) (n c : Nat) (L : List Int) (j : Nat) (s : Spans) (wr : World) : Prop where
 cur : CurAt wr C A n c L j
 box : Blk wr P 60 #[.pointer (some ⟨C, 0, none⟩)]
 set : ∃ B m d, Blk wr G 22 #[.slice B m d] ∧ RdX wr (fun b => b ≠ C ∧ b ≠ P ∧ b ≠ G ∧ w.heap.size ≤ b) 2 B m (spanCells s) ∧ m ≤ d
 right : RightSet s
 but : But w C wr
 lo : C < w.heap.size ∧ w.heap.size ≤ P ∧ w.heap.size ≤ G ∧ P ≠ G
section
variable {w wr w' : World} {C P G : Nat} {A : Option Addr} {n c : Nat} {L : List Int} {j : Nat} {s : Spans}
theorem SetFr.keepB (h : SetFr w C P G A n c L j s wr) (hb : But wr C w') {k : Nat} (hc : CurAt w' C A n c L k) : SetFr w C P G A n c L k s w' := by
 obtain ⟨B, m, d, h1, h2, h3⟩ := h.set
 obtain ⟨l1, l2, l3, l4⟩ := h.lo
 exact ⟨hc, (hb.2.2.2.2 P h.box.lt (by omega)).trans h.box, ⟨B, m, d, (hb.2.2.2.2 G h1.lt (by omega)).trans h1, h2.keep (hb.keeps (fun b h => h.1) (fun b h _ => h)), h3⟩, h.right, h.but.trans hb, h.lo⟩
theorem SetFr.below (h : SetFr w C P G A n c L j s wr) (hb : Below wr.heap.size wr w') : SetFr w C P G A n c L j s w' := h.keepB (But.below C hb) (h.cur.below hb)
theorem SetFr.drew (h : SetFr w C P G A n c L j s wr) : SetFr w C P G A n c L j s wr.drew := h.below ((Below.refl _ _).drew)
theorem SetFr.put (h : SetFr w C P G A n c L j s wr) {t : Spans} {B : Option Addr} {m d : Nat} (hr : RdX wr (fun b => b ≠ C ∧ b ≠ P ∧ b ≠ G ∧ w.heap.size ≤ b) 2 B m (spanCells t)) (hd : m ≤ d) (ht : RightSet t) :
 SetFr w C P G A n c L j t (wr.setCell ⟨G, 0, none⟩ (.slice B m d)) := by
 obtain ⟨B0, m0, d0, h1, h2, h3⟩ := h.set
 obtain ⟨l1, l2, l3, l4⟩ := h.lo
 have hk : But wr G (wr.setCell ⟨G, 0, none⟩ (.slice B m d)) := But.set _ _ _ _
 refine ⟨h.cur.set h1 (fun x e => by cases e) (by omega) _, (hk.2.2.2.2 P h.box.lt l4).trans h.box, ⟨B, m, d, h1.put 0 _, hr.keep (hk.keeps (fun b h => h.2.2.1) (fun b h _ => h)), hd⟩, ht, ?_, h.lo⟩
 exact ⟨Nat.le_trans h.but.1 hk.1, hk.2.1.trans h.but.2.1, hk.2.2.1.trans h.but.2.2.1, hk.2.2.2.1.trans h.but.2.2.2.1, fun b hb hne => (hk.2.2.2.2 b (Nat.lt_of_lt_of_le hb h.but.1) (by omega)).trans (h.but.2.2.2.2 b hb hne)⟩
end
theorem SetFr.arg {w wr : World} {C P G : Nat} {A : Option Addr} {n c : Nat} {L : List Int} {j : Nat} {s : Spans} (h : SetFr w C P G A n c L j s wr) {B : Option Addr} {m d : Nat} (hb : Blk wr G 22 #[.slice B m d]) : SetArg wr B m d s := by
 obtain ⟨B0, m0, d0, h1, h2, h3⟩ := h.set
 have e : #[Value.slice B m d] = #[.slice B0 m0 d0] := by
  unfold Blk at hb h1
  rw [hb] at h1
  injection h1 with h1
  injection h1
 have e2 : Value.slice B m d = .slice B0 m0 d0 := by simpa using e
 cases e2
 exact ⟨h.right, h2.of, h3⟩
theorem SetFr.part {w wx w1 : World} {C P G : Nat} {A : Option Addr} {n c : Nat} {L : List Int} {j j2 : Nat} {s t : Spans} {e : Ending} (h : SetFr w C P G A n c L j s wx) (ht : RightSet t) (hp : SetPost wx C A n c L (.ok (t, j2)) e w1) :
 ∃ B m d, e = .returned (.slice B m d) ∧ SetFr w C P G A n c L j2 s w1 ∧ SetArg w1 B m d t ∧ But wx C w1 := by
 obtain ⟨⟨B, m, d, rfl, hr, hd⟩, hc, hb⟩ := hp
 exact ⟨B, m, d, rfl, h.keepB hb hc, ⟨ht, hr.of, hd⟩, hb⟩
theorem SetFr.gblk {w wx w1 : World} {C P G : Nat} {A : Option Addr} {n c : Nat} {L : List Int} {j : Nat} {s : Spans} {cs : Array Value} {t : TypeId} (h : SetFr w C P G A n c L j s wx) (hb : But wx C w1) (hG : Blk wx G t cs) : Blk w1 G t cs :=
 (hb.2.2.2.2 G hG.lt (by have := h.lo; omega)).trans hG
theorem SetFr.pblk {w wx : World} {C P G : Nat} {A : Option Addr} {n c : Nat} {L : List Int} {j : Nat} {s : Spans} (h : SetFr w C P G A n c L j s wx) : wx.cell? ⟨P, 0, none⟩ = some (.pointer (some ⟨C, 0, none⟩)) := h.box.cell 0
theorem SetFr.op {w w1 w2 : World} {C P G : Nat} {A : Option Addr} {n c : Nat} {L : List Int} {j : Nat} {s : Spans} {r : Spans × Int} {e : Ending} (h : SetFr w C P G A n c L j s w1) (hp : SetTuple w1 r e w2) :
 ∃ B m d, e = .returned (.tuple #[.slice B m d, .int .i64 r.2]) ∧ SetFr w C P G A n c L j s w2 ∧ RdX w2 (fun b => b ≠ C ∧ b ≠ P ∧ b ≠ G ∧ w.heap.size ≤ b) 2 B m (spanCells r.1) ∧ m ≤ d ∧ Below w1.heap.size w1 w2 := by
 obtain ⟨B, m, d, rfl, h1, _, h2, h3⟩ := hp
 refine ⟨B, m, d, rfl, h.below h3, h1.lift (fun b hb => ?_), h2, h3⟩
 obtain ⟨B0, m0, d0, g1, _⟩ := h.set
 have l1 := h.cur.blk.lt
 have l2 := h.box.lt
 have l3 := g1.lt
 have l4 := h.but.1
 exact ⟨by omega, by omega, by omega, by omega⟩
set_option maxHeartbeats 1600000 in
theorem keep_ok (B : Option Addr) (m d P G : Nat) (v : Value) (w : World) (hG : Blk w G 22 #[v]) :
 Calls Tryz.prog 76 (#[.slice B m d, .int .i64 0] ++ #[.pointer (some ⟨P, 0, none⟩), .pointer (some ⟨G, 0, none⟩)]) w fun e w' => e = .returned (.tuple #[]) ∧ w' = w.setCell ⟨G, 0, none⟩ (.slice B m d) := by
 have c0 := hG.cell 0
 have f0 := hG.frozen 0
 clear hG
 go_enter Tryz.func76, Tryz.ntmps76
 go_wp2_with fail
 go_end0
 exact ⟨rfl, rfl⟩
set_option maxHeartbeats 1600000 in
theorem keep_err (B : Option Addr) (m d C P G : Nat) (A : Option Addr) (n c : Nat) (L : List Int) (j : Nat) (x : Int) (w : World) (hx : x ≠ 0) (hP : Blk w P 60 #[.pointer (some ⟨C, 0, none⟩)]) (hC : CurAt w C A n c L j) :
 Calls Tryz.prog 76 (#[.slice B m d, .int .i64 x] ++ #[.pointer (some ⟨P, 0, none⟩), .pointer (some ⟨G, 0, none⟩)]) w fun e w' => e = thrown x j ∧ w' = w := by
 have c0 := hP.cell 0
 have d0 := hC.blk.cell 1
 have hx2 : (x != 0) = true := by simp; exact hx
 have HF := Lib.hid (fun (W : World) => syn_fail x j W)
 clear hP hC hx
 go_enter Tryz.func76, Tryz.ntmps76
 go_wp2_with fail
 refine (HF.out _).mono ?_
 rintro e w3 ⟨rfl, rfl⟩
 go_wp2_with fail
 exact ⟨rfl, rfl, rfl⟩
end Go.Proofs.YthnhbcohfoodlaaGreatDoor
