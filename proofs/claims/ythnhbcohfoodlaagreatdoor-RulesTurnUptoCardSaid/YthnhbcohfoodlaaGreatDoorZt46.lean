/- RdPartC + RdPart + RdFileFr -/
import Derived.Test.YthnhbcohfoodlaaGreatDoorZt44
import Derived.Deep.DeepCutAuto
import Derived.Test.YthnhbcohfoodlaaGreatDoorZt45
import Derived.Test.YthnhbcohfoodlaaGreatDoorZt43
import Derived.Test.YthnhbcohfoodlaaGreatDoorZt1
namespace Go.Proofs.YthnhbcohfoodlaaGreatDoor
open Go.RowKit
theorem rule_left_err {L : List Int} {i : Nat} {e : Int × Nat} (h : sideR L i = .error e) : ruleR L i = .error e := by unfold ruleR; rw [h]
theorem rule_arrow_err {L : List Int} {i j : Nat} {l : SideD} {e : Int × Nat} (h : sideR L i = .ok (l, j)) (h2 : arrowR L j = .error e) : ruleR L i = .error e := by unfold ruleR; rw [h]; simp only; rw [h2]
theorem rule_right_err {L : List Int} {i j k : Nat} {l : SideD} {d : Int} {e : Int × Nat} (h : sideR L i = .ok (l, j)) (h2 : arrowR L j = .ok (d, k)) (h3 : sideR L k = .error e) : ruleR L i = .error e := by unfold ruleR; rw [h]; simp only; rw [h2]; simp only; rw [h3]
theorem rule_wrong {L : List Int} {i j k m : Nat} {l r : SideD} {d : Int} (h : sideR L i = .ok (l, j)) (h2 : arrowR L j = .ok (d, k)) (h3 : sideR L k = .ok (r, m)) : ruleR L i = if partP ⟨2, noName, [], d, l, r⟩ ≠ 0 then .error (partP ⟨2, noName, [], d, l, r⟩, i) else .ok (⟨2, noName, [], d, l, r⟩, m) := by unfold ruleR; rw [h]; simp only; rw [h2]; simp only; rw [h3]
theorem arrow_dir {L : List Int} {i j : Nat} {d : Int} (h : arrowR L i = .ok (d, j)) : 1 ≤ d ∧ d ≤ 3 := by
 unfold arrowR at h
 split at h
 ·injection h with h; injection h with h1 h2; omega
 ·split at h
  ·injection h with h; injection h with h1 h2; omega
  ·split at h
   ·cases h
   ·injection h with h; injection h with h1 h2; omega
theorem six_puts {wr : World} {P : Nat} {t : TypeId} {X X' : Nat → Prop} (a0 a1 a2 a3 a4 a5 a6 a7 a8 a9 v0 v1 v2 v3 v4 v5 z0 z1 z2 z3 z4 z5 : Value) (h : Blk wr P t #[a0, a1, a2, a3, a4, a5, a6, a7, a8, a9, z0, z1, z2, z3, z4, z5]) (hX : ∀ b, X b → b ≠ P) (h2 : ∀ b, X b → X' b) : Blk ((((((wr.setCell ⟨P, 10, none⟩ v0).setCell ⟨P, 11, none⟩ v1).setCell ⟨P, 12, none⟩ v2).setCell ⟨P, 13, none⟩ v3).setCell ⟨P, 14, none⟩ v4).setCell ⟨P, 15, none⟩ v5) P t #[a0, a1, a2, a3, a4, a5, a6, a7, a8, a9, v0, v1, v2, v3, v4, v5] ∧ Keeps wr X ((((((wr.setCell ⟨P, 10, none⟩ v0).setCell ⟨P, 11, none⟩ v1).setCell ⟨P, 12, none⟩ v2).setCell ⟨P, 13, none⟩ v3).setCell ⟨P, 14, none⟩ v4).setCell ⟨P, 15, none⟩ v5) X' := by
 have r0 : Blk (wr.setCell ⟨P, 10, none⟩ v0) P t #[a0, a1, a2, a3, a4, a5, a6, a7, a8, a9, v0, z1, z2, z3, z4, z5] := h.put 10 v0
 have r1 : Blk ((wr.setCell ⟨P, 10, none⟩ v0).setCell ⟨P, 11, none⟩ v1) P t #[a0, a1, a2, a3, a4, a5, a6, a7, a8, a9, v0, v1, z2, z3, z4, z5] := r0.put 11 v1
 have r2 : Blk (((wr.setCell ⟨P, 10, none⟩ v0).setCell ⟨P, 11, none⟩ v1).setCell ⟨P, 12, none⟩ v2) P t #[a0, a1, a2, a3, a4, a5, a6, a7, a8, a9, v0, v1, v2, z3, z4, z5] := r1.put 12 v2
 have r3 : Blk ((((wr.setCell ⟨P, 10, none⟩ v0).setCell ⟨P, 11, none⟩ v1).setCell ⟨P, 12, none⟩ v2).setCell ⟨P, 13, none⟩ v3) P t #[a0, a1, a2, a3, a4, a5, a6, a7, a8, a9, v0, v1, v2, v3, z4, z5] := r2.put 13 v3
 have r4 : Blk (((((wr.setCell ⟨P, 10, none⟩ v0).setCell ⟨P, 11, none⟩ v1).setCell ⟨P, 12, none⟩ v2).setCell ⟨P, 13, none⟩ v3).setCell ⟨P, 14, none⟩ v4) P t #[a0, a1, a2, a3, a4, a5, a6, a7, a8, a9, v0, v1, v2, v3, v4, z5] := r3.put 14 v4
 have r5 : Blk ((((((wr.setCell ⟨P, 10, none⟩ v0).setCell ⟨P, 11, none⟩ v1).setCell ⟨P, 12, none⟩ v2).setCell ⟨P, 13, none⟩ v3).setCell ⟨P, 14, none⟩ v4).setCell ⟨P, 15, none⟩ v5) P t #[a0, a1, a2, a3, a4, a5, a6, a7, a8, a9, v0, v1, v2, v3, v4, v5] := r4.put 15 v5
 have kp : ∀ (W : World) (k : Nat) (v : Value), Keeps W X (W.setCell ⟨P, k, none⟩ v) X := fun W k v => Keeps.setCell v hX (fun _ h _ => h)
 have k0 := kp wr 10 v0
 have k1 := k0.trans (kp (wr.setCell ⟨P, 10, none⟩ v0) 11 v1)
 have k2 := k1.trans (kp ((wr.setCell ⟨P, 10, none⟩ v0).setCell ⟨P, 11, none⟩ v1) 12 v2)
 have k3 := k2.trans (kp (((wr.setCell ⟨P, 10, none⟩ v0).setCell ⟨P, 11, none⟩ v1).setCell ⟨P, 12, none⟩ v2) 13 v3)
 have k4 := k3.trans (kp ((((wr.setCell ⟨P, 10, none⟩ v0).setCell ⟨P, 11, none⟩ v1).setCell ⟨P, 12, none⟩ v2).setCell ⟨P, 13, none⟩ v3) 14 v4)
 have k5 := k4.trans (kp (((((wr.setCell ⟨P, 10, none⟩ v0).setCell ⟨P, 11, none⟩ v1).setCell ⟨P, 12, none⟩ v2).setCell ⟨P, 13, none⟩ v3).setCell ⟨P, 14, none⟩ v4) 15 v5)
 exact ⟨r5, k5.trans (Keeps.refl h2)⟩
set_option maxHeartbeats 12800000 in
set_option maxRecDepth 100000 in
theorem rd_part_rule (w : World) (C : Nat) (A : Option Addr) (n c : Nat) (L : List Int) (i : Nat) (h : CurAt w C A n c L i) (hL : ValidL L) (hn : n ≤ 100000) (h58 : pk L i ≠ 58) (hv : ¬ (pk L i = 36 ∧ varB L i = true)) :
 Calls Tryz.prog 58 #[.pointer (some ⟨C, 0, none⟩)] w (PtPost w C A n c L (ruleR L i)) := by
 have hl := h.len
 have HL := Lib.hid hL
 have HPK := Lib.hid (fun (W : World) (m : Nat) (h : CurAt W C A n c L m) => cur_peek2 W C A n c L m h)
 have HSP := Lib.hid (fun (W : World) (m : Nat) (h : CurAt W C A n c L m) => rd_space W C A n c L m h)
 have HND := Lib.hid (fun (W : World) (m : Nat) (r : Int) (h : CurAt W C A n c L m) (hr : r ≠ -1) => cur_need W C A n c L m r h hr)
 have HST := Lib.hid (fun (W : World) (m : Nat) (h : CurAt W C A n c L m) => cur_set 20 1 W C A n c L m rfl (by decide) h hL hn)
 have HWD := Lib.hid (fun (W : World) (m : Nat) (h : CurAt W C A n c L m) (h0 : 0 < n) => rd_word W C A n c L m h h0)
 have hi := h.le
 have HF0 := Lib.hid (pt_start w C A n c L i h)
 obtain ⟨R, hR⟩ : ∃ R, ruleR L i = R := ⟨_, rfl⟩
 rw [hR]
 have HR := Lib.hid hR
 clear h hL hR
 go_enter Tryz.func58, Tryz.ntmps58
 go_wp2_with fail
 refine (HPK.out _ i HF0.out.cur.cur).mono ?_
 rintro e w1 ⟨rfl, hc1, hb1⟩
 have HF1 := Lib.hid (HF0.out.step hc1 hb1)
 clear hc1 hb1
 have HSD := Lib.hid (fun (W : World) (m : Nat) (h : CurAt W C A n c L m) => rd_side_x W C A n c L m h HL.out hn)
 have q58 : (pk L i == 58) = false := by rw [beq_eq_false_iff_ne]; exact h58
 go_upto_region 12 with fail
 go_cut [63] (fun v wx => v = .bool false ∧ PtFr w C A n c L wx i)
 case first =>
  by_cases h36 : pk L i = 36
  ·have hlt : i < n := by rw [← hl]; exact pk_lt (by omega)
   have hvf : varB L i = false := by rw [Bool.eq_false_iff]; exact fun h => hv ⟨h36, h⟩
   have HVR := Lib.hid (fun (W : World) (h : CurAt W C A n c L i) => show Calls Tryz.prog 98 #[.pointer (some ⟨C, 0, none⟩)] W fun e w' => e = .returned (.bool false) ∧ Below W.heap.size W w' by have := rd_variable W C A n c L i h hlt; rwa [hvf] at this)
   clear h58 hv q58
   go_wp2_with (first
    | (go_at_call 57; refine (HPK.out _ i HF1.out.cur.cur).mono ?_; rintro e w2 ⟨rfl, hc2, hb2⟩; rw [h36])
    | (go_at_call 98; refine (HVR.out _ (by assumption)).mono ?_; rintro e w3 ⟨rfl, hb3⟩))
   go_meet
   exact ⟨rfl, (HF1.out.step hc2 hb2).below hb3⟩
  ·have q36 : (pk L i == 36) = false := by rw [beq_eq_false_iff_ne]; exact h36
   clear h58 hv q58
   go_wp2_with (go_at_call 57; refine (HPK.out _ i HF1.out.cur.cur).mono ?_; rintro e w2 ⟨rfl, hc2, hb2⟩)
   go_meet
   exact ⟨rfl, HF1.out.step hc2 hb2⟩
 case rest =>
  obtain ⟨rfl, hfc⟩ := hcut
  have HF2 := Lib.hid hfc
  have y1 := hfc.cur.cur.blk.cell 1
  have HS1 := Lib.hid (HSD.out _ i hfc.cur.cur)
  clear hfc h58 hv q58
  cases hsl : sideR L i with
  | error e0 =>
    obtain ⟨y, p⟩ := e0
    have HRX := Lib.hid (show R = .error (y, p) from HR.out.symm.trans (rule_left_err hsl))
    rw [hsl] at HS1
    clear hsl
    go_wp2_with fail
    refine HS1.out.mono ?_
    rintro e w9 ⟨he, hb9⟩
    unfold thrown at he
    subst he
    have HB9 := Lib.hid (HF2.out.but.trans hb9)
    clear hb9
    go_wp2_with fail
    rw [HRX.out]
    exact ⟨rfl, rfl, HB9.out⟩
  | ok q =>
    obtain ⟨l, j⟩ := q
    have HSL := Lib.hid hsl
    rw [hsl] at HS1
    clear hsl
    go_wp2_with fail
    refine HS1.out.mono ?_
    rintro e w3 ⟨⟨L1, a1, x1, L2, a2, x2, L3, a3, x3, rfl, hsx⟩, hc3, hb3⟩
    obtain ⟨ls, lf, lb, lsr, la, lc⟩ := l
    dsimp only at hsx
    have HF3 := Lib.hid (HF2.out.step hc3 hb3)
    have hPlt : w.heap.size < w3.heap.size := HF3.out.res.lt
    have hP0 := HF2.out.res.lt
    have hPC : w3.heap.size ≠ C := by have := HF3.out.cur.lt; have := HF3.out.but.1; omega
    have hblk := Blk.new w3 98 #[.int .i64 2, .string ⟨#[]⟩, .slice none 0 0, .int .i64 0, .bool ls, .bool lf, .slice L1 a1 x1, .slice L2 a2 x2, .slice L3 a3 x3, .int .i64 lc, .bool false, .bool false, .slice none 0 0, .slice none 0 0, .slice none 0 0, .int .i64 0]
    have hbw : Below w3.heap.size w3 (w3.alloc (.cells #[.int .i64 2, .string ⟨#[]⟩, .slice none 0 0, .int .i64 0, .bool ls, .bool lf, .slice L1 a1 x1, .slice L2 a2 x2, .slice L3 a3 x3, .int .i64 lc, .bool false, .bool false, .slice none 0 0, .slice none 0 0, .slice none 0 0, .int .i64 0] 98)) := (Below.refl _ _).alloc (Nat.le_refl _) _
    have HF4 := Lib.hid (HF3.out.below hbw)
    have HBK4 := Lib.hid hblk
    have HSX4 := Lib.hid (hsx.keep (Keeps.alloc (X' := fun b => PtX w C b ∧ b ≠ w3.heap.size) (.cells #[.int .i64 2, .string ⟨#[]⟩, .slice none 0 0, .int .i64 0, .bool ls, .bool lf, .slice L1 a1 x1, .slice L2 a2 x2, .slice L3 a3 x3, .int .i64 lc, .bool false, .bool false, .slice none 0 0, .slice none 0 0, .slice none 0 0, .int .i64 0] 98) (fun b hb hl => ⟨⟨by have := hb.1; omega, hb.2⟩, by omega⟩)))
    clear hbw hblk hsx hc3 hb3 y1
    have HAR := Lib.hid (rd_arrow _ C A n c L j HF4.out.cur.cur)
    cases har : arrowR L j with
    | error e0 =>
      obtain ⟨y, p⟩ := e0
      have HRX := Lib.hid (show R = .error (y, p) from HR.out.symm.trans (rule_arrow_err HSL.out har))
      rw [har] at HAR
      clear har
      go_wp2_with fail
      refine HAR.out.mono ?_
      rintro e w9 ⟨he, hb9⟩
      unfold thrown at he
      subst he
      have HB9 := Lib.hid (HF4.out.but.trans hb9)
      clear hb9
      go_wp2_with fail
      rw [HRX.out]
      exact ⟨rfl, rfl, HB9.out⟩
    | ok q =>
      obtain ⟨d, k⟩ := q
      have HAE := Lib.hid har
      have hdir := arrow_dir har
      rw [har] at HAR
      clear har
      go_wp2_with fail
      refine HAR.out.mono ?_
      rintro e w5 ⟨rfl, hc5, hb5⟩
      have hf5 := HF4.out.step hc5 hb5
      have hk5 := blk_step HBK4.out hb5 hPC
      have hx5 := HSX4.out.keep (hb5.keeps (X' := fun b => PtX w C b ∧ b ≠ w3.heap.size) (fun b h => h.1.2) (fun _ h _ => h))
      have x5 := hk5.cell 3
      have z5 := hk5.frozen 3
      have HF6 := Lib.hid (hf5.put hPlt 3 (.int .i64 d))
      have HBK6 := Lib.hid (show Blk (w5.setCell ⟨w3.heap.size, 3, none⟩ (.int .i64 d)) w3.heap.size 98 #[.int .i64 2, .string ⟨#[]⟩, .slice none 0 0, .int .i64 d, .bool ls, .bool lf, .slice L1 a1 x1, .slice L2 a2 x2, .slice L3 a3 x3, .int .i64 lc, .bool false, .bool false, .slice none 0 0, .slice none 0 0, .slice none 0 0, .int .i64 0] from hk5.put 3 _)
      have HSX6 := Lib.hid (hx5.keep (Keeps.setCell (p := ⟨w3.heap.size, 3, none⟩) (X' := fun b => PtX w C b ∧ b ≠ w3.heap.size) (.int .i64 d) (fun b h => h.2) (fun _ h _ => h)))
      clear hf5 hk5 hx5 hc5 hb5
      have HS2 := Lib.hid (HSD.out _ k HF6.out.cur.cur)
      have hz6 : w3.heap.size < (w5.setCell ⟨w3.heap.size, 3, none⟩ (.int .i64 d)).heap.size := HBK6.out.lt
      cases hsr : sideR L k with
      | error e0 =>
        obtain ⟨y, p⟩ := e0
        have HRX := Lib.hid (show R = .error (y, p) from HR.out.symm.trans (rule_right_err HSL.out HAE.out hsr))
        rw [hsr] at HS2
        clear hsr
        go_wp2_with fail
        refine HS2.out.mono ?_
        rintro e w9 ⟨he, hb9⟩
        unfold thrown at he
        subst he
        have HB9 := Lib.hid (HF6.out.but.trans hb9)
        clear hb9
        go_wp2_with fail
        rw [HRX.out]
        exact ⟨rfl, rfl, HB9.out⟩
      | ok q =>
        obtain ⟨r, m⟩ := q
        have HRW := Lib.hid (HR.out.symm.trans (rule_wrong HSL.out HAE.out hsr))
        have HRG := Lib.hid hsr
        rw [hsr] at HS2
        clear hsr
        go_wp2_with fail
        refine HS2.out.mono ?_
        rintro e w7 ⟨⟨R1, b1, y1, R2, b2, y2, R3, b3, y3, rfl, hry⟩, hc7, hb7⟩
        obtain ⟨rs, rf, rb, rsr, ra, rc⟩ := r
        dsimp only at hry HRW ⊢
        have hf7 := HF6.out.step hc7 hb7
        have hk7 := blk_step HBK6.out hb7 hPC
        have hlx7 := HSX6.out.keep (hb7.keeps (X' := fun b => PtX w C b ∧ b ≠ w3.heap.size) (fun b h => h.1.2) (fun _ h _ => h))
        have hrx7 := hry.keep (Keeps.refl (X' := fun b => PtX w C b ∧ b ≠ w3.heap.size) (fun b hb => ⟨⟨by have := hb.1; omega, hb.2⟩, by have := hb.1; omega⟩))
        have x10 := hk7.cell 10
        have z10 := hk7.frozen 10
        have x11 := hk7.cell 11
        have z11 := hk7.frozen 11
        have x12 := hk7.cell 12
        have z12 := hk7.frozen 12
        have x13 := hk7.cell 13
        have z13 := hk7.frozen 13
        have x14 := hk7.cell 14
        have z14 := hk7.frozen 14
        have x15 := hk7.cell 15
        have z15 := hk7.frozen 15
        obtain ⟨hk8, hkp⟩ := six_puts (X := fun b => PtX w C b ∧ b ≠ w3.heap.size) (X' := PtX w C) (.int .i64 2) (.string ⟨#[]⟩) (.slice none 0 0) (.int .i64 d) (.bool ls) (.bool lf) (.slice L1 a1 x1) (.slice L2 a2 x2) (.slice L3 a3 x3) (.int .i64 lc) (.bool rs) (.bool rf) (.slice R1 b1 y1) (.slice R2 b2 y2) (.slice R3 b3 y3) (.int .i64 rc) (.bool false) (.bool false) (.slice none 0 0) (.slice none 0 0) (.slice none 0 0) (.int .i64 0) hk7 (fun b h => h.2) (fun b h => h.1)
        have HF8 := Lib.hid ((((((hf7.put hPlt 10 (.bool rs)).put hPlt 11 (.bool rf)).put hPlt 12 (.slice R1 b1 y1)).put hPlt 13 (.slice R2 b2 y2)).put hPlt 14 (.slice R3 b3 y3)).put hPlt 15 (.int .i64 rc))
        have HPX8 := Lib.hid (show PartX _ (PtX w C) ⟨2, noName, [], d, ⟨ls, lf, lb, lsr, la, lc⟩, ⟨rs, rf, rb, rsr, ra, rc⟩⟩ [.int .i64 2, .string ⟨#[]⟩, .slice none 0 0, .int .i64 d, .bool ls, .bool lf, .slice L1 a1 x1, .slice L2 a2 x2, .slice L3 a3 x3, .int .i64 lc, .bool rs, .bool rf, .slice R1 b1 y1, .slice R2 b2 y2, .slice R3 b3 y3, .int .i64 rc] from ⟨none, 0, 0, [.bool ls, .bool lf, .slice L1 a1 x1, .slice L2 a2 x2, .slice L3 a3 x3, .int .i64 lc], [.bool rs, .bool rf, .slice R1 b1 y1, .slice R2 b2 y2, .slice R3 b3 y3, .int .i64 rc], rfl, RdX.nil 2, Nat.zero_le _, hlx7.keep hkp, hrx7.keep hkp, show i64R 2 from ⟨by decide, by decide⟩, show i64R d by unfold i64R; omega, Nat.zero_le _⟩)
        have HBK8 := Lib.hid hk8
        have HLS8 := Lib.hid (hlx7.keep hkp)
        have HRS8 := Lib.hid (hrx7.keep hkp)
        clear hf7 hk7 hlx7 hrx7 hkp hk8 hry hc7 hb7
        go_upto_region 24 with fail
        have hHF := HF8.out
        have hHB := HBK8.out
        have hHP := HPX8.out
        have hHL := HLS8.out
        have hHR := HRS8.out
        clear HF8 HBK8 HPX8 HLS8 HRS8 x5 z5 x10 z10 x11 z11 x12 z12 x13 z13 x14 z14 x15 z15
        generalize ((((((w7.setCell ⟨w3.heap.size, 10, none⟩ (.bool rs)).setCell ⟨w3.heap.size, 11, none⟩ (.bool rf)).setCell ⟨w3.heap.size, 12, none⟩ (.slice R1 b1 y1)).setCell ⟨w3.heap.size, 13, none⟩ (.slice R2 b2 y2)).setCell ⟨w3.heap.size, 14, none⟩ (.slice R3 b3 y3)).setCell ⟨w3.heap.size, 15, none⟩ (.int .i64 rc)) = w8 at *
        have HF8 := Lib.hid hHF
        have HBK8 := Lib.hid hHB
        have HPX8 := Lib.hid hHP
        clear hHF hHB hHP
        have HPT := Lib.hid (show Calls Tryz.prog 70 #[.agg #[.int .i64 2, .string ⟨#[]⟩, .slice none 0 0, .int .i64 d, .bool ls, .bool lf, .slice L1 a1 x1, .slice L2 a2 x2, .slice L3 a3 x3, .int .i64 lc, .bool rs, .bool rf, .slice R1 b1 y1, .slice R2 b2 y2, .slice R3 b3 y3, .int .i64 rc]] w8 fun e w' => e = .returned (.int .i64 (partP ⟨2, noName, [], d, ⟨ls, lf, lb, lsr, la, lc⟩, ⟨rs, rf, rb, rsr, ra, rc⟩⟩)) ∧ Below w8.heap.size w8 w' by
         obtain ⟨_, _, _, _, _, _, _, _, _, he, l1, l2, l3, la1, la2, la3, _⟩ := hHL
         cases he
         obtain ⟨_, _, _, _, _, _, _, _, _, he, r1, r2, r3, ra1, ra2, ra3, _⟩ := hHR
         cases he
         exact rulesyn_part ⟨2, noName, [], d, ⟨ls, lf, lb, lsr, la, lc⟩, ⟨rs, rf, rb, rsr, ra, rc⟩⟩ none 0 0 L1 L2 L3 R1 R2 R3 a1 a2 a3 x1 x2 x3 b1 b2 b3 y1 y2 y3 w8 ((RdX.nil (w := w8) (X := PtX w C) 2).rd (fun _ _ h => h)) (Nat.zero_le _) l1.rd l2.rd l3.rd la1 la2 la3 r1.rd r2.rd r3.rd ra1 ra2 ra3)
        clear hHL hHR
        generalize partP ⟨2, noName, [], d, ⟨ls, lf, lb, lsr, la, lc⟩, ⟨rs, rf, rb, rsr, ra, rc⟩⟩ = pe at HPT HRW
        go_wp2_with (refine wpList_load_row (cs := #[.int .i64 2, .string ⟨#[]⟩, .slice none 0 0, .int .i64 d, .bool ls, .bool lf, .slice L1 a1 x1, .slice L2 a2 x2, .slice L3 a3 x3, .int .i64 lc, .bool rs, .bool rf, .slice R1 b1 y1, .slice R2 b2 y2, .slice R3 b3 y3, .int .i64 rc]) rfl rfl structPt infoPt rfl HBK8.out ?_)
        refine HPT.out.mono ?_
        rintro e w9 ⟨rfl, hb9⟩
        have HF9 := Lib.hid (HF8.out.below hb9)
        have hk9 := HBK8.out.below hb9 HBK8.out.lt
        have HPX9 := Lib.hid (HPX8.out.keep (Keeps.below hb9 (X' := PtX w C) (fun _ h _ => h)))
        clear hb9
        by_cases hpe : pe = 0
        ·have q0 : (pe != 0) = false := by simpa using hpe
         have HRX := Lib.hid (show R = .ok (⟨2, noName, [], d, ⟨ls, lf, lb, lsr, la, lc⟩, ⟨rs, rf, rb, rsr, ra, rc⟩⟩, m) by rw [HRW.out, if_neg (fun h => h hpe)])
         have HBK9 := Lib.hid hk9
         clear hk9 hpe
         obtain ⟨hone, e1, e2, hlc6, e4⟩ := pt_done HF9.out HPX9.out
         have HE1 := Lib.hid e1
         have HE2 := Lib.hid e2
         have HE4 := Lib.hid e4
         have HON := Lib.hid hone
         have HLC := Lib.hid hlc6
         have HRB := Lib.hid (PtFr.res HF9.out)
         have HLB := Lib.hid HBK9.out
         clear e1 e2 e4 hlc6 hone
         go_wp2_with (first | (refine wpList_load_row (cs := #[.int .i64 2, .string ⟨#[]⟩, .slice none 0 0, .int .i64 d, .bool ls, .bool lf, .slice L1 a1 x1, .slice L2 a2 x2, .slice L3 a3 x3, .int .i64 lc, .bool rs, .bool rf, .slice R1 b1 y1, .slice R2 b2 y2, .slice R3 b3 y3, .int .i64 rc]) rfl rfl structPt infoPt rfl HLB.out ?_) | (refine wpList_store_row (c := #[.int .i64 0, .string ⟨#[]⟩, .slice none 0 0, .int .i64 0, .bool false, .bool false, .slice none 0 0, .slice none 0 0, .slice none 0 0, .int .i64 0, .bool false, .bool false, .slice none 0 0, .slice none 0 0, .slice none 0 0, .int .i64 0]) (vs := #[.int .i64 2, .string ⟨#[]⟩, .slice none 0 0, .int .i64 d, .bool ls, .bool lf, .slice L1 a1 x1, .slice L2 a2 x2, .slice L3 a3 x3, .int .i64 lc, .bool rs, .bool rf, .slice R1 b1 y1, .slice R2 b2 y2, .slice R3 b3 y3, .int .i64 rc]) rfl rfl infoPt rfl HON.out rfl rfl HRB.out ?_))
         (try simp only [Act.put])
         refine bodyPost_ret (v := .agg #[.int .i64 2, .string ⟨#[]⟩, .slice none 0 0, .int .i64 d, .bool ls, .bool lf, .slice L1 a1 x1, .slice L2 a2 x2, .slice L3 a3 x3, .int .i64 lc, .bool rs, .bool rf, .slice R1 b1 y1, .slice R2 b2 y2, .slice R3 b3 y3, .int .i64 rc]) (results_row Tryz.results58 rfl structPt infoPt HLC.out) rfl ?_
         rw [HRX.out]
         exact ⟨⟨_, rfl, HE4.out⟩, HE1.out, HE2.out⟩
        ·have q0 : (pe != 0) = true := by simpa using hpe
         have HRX := Lib.hid (show R = .error (pe, i) by rw [HRW.out, if_pos hpe])
         clear hk9 hpe
         go_wp2_with fail
         refine (syn_fail pe i _).mono ?_
         rintro e w10 ⟨rfl, rfl⟩
         go_wp2_with fail
         rw [HRX.out]
         exact ⟨rfl, rfl, HF9.out.but⟩
end Go.Proofs.YthnhbcohfoodlaaGreatDoor

namespace Go.Proofs.YthnhbcohfoodlaaGreatDoor
open Go.RowKit
theorem rd_part (w : World) (C : Nat) (A : Option Addr) (n c : Nat) (L : List Int) (i : Nat) (h : CurAt w C A n c L i) (hL : ValidL L) (hn : n ≤ 100000) :
 Calls Tryz.prog 58 #[.pointer (some ⟨C, 0, none⟩)] w (PtPost w C A n c L (partR L i)) := by
 unfold partR
 by_cases h58 : pk L i = 58
 ·rw [if_pos h58]
  exact rd_part_pass w C A n c L i h hL hn h58
 ·rw [if_neg h58]
  by_cases hv : pk L i = 36 ∧ pk L (spaceP L (wordEnd L (i + 1))) = 61
  ·rw [if_pos hv]
   exact rd_part_var w C A n c L i h hL hn hv.1 (decide_eq_true hv.2)
  ·rw [if_neg hv]
   exact rd_part_rule w C A n c L i h hL hn h58 (fun x => hv ⟨x.1, of_decide_eq_true x.2⟩)
end Go.Proofs.YthnhbcohfoodlaaGreatDoor

namespace Go.Proofs.YthnhbcohfoodlaaGreatDoor
open Go.RowKit
theorem rules_end (F R : Nat) (x p : Int) (v : Value) (tF tR : TypeId) (u : FrameMode) (w : World) (hF : Blk w F tF #[.int .i64 x, .int .i64 p]) (hR : Blk w R tR #[v]) :
 CallsD Tryz.prog 55 #[.pointer (some ⟨F, 0, none⟩), .pointer (some ⟨R, 0, none⟩)] u w fun e u' w' => u' = u ∧ e = .returned (.tuple #[]) ∧ w' = if x = 0 then w else w.setCell ⟨R, 0, none⟩ (.slice none 0 0) := by
 have f0 := hF.cell 0
 have r0 := hR.frozen 0
 have r1 := hR.cell 0
 clear hF hR
 by_cases hx : x = 0
 ·subst hx
  go_enter_d Tryz.func55, Tryz.ntmps55
  go_wp2_with fail
  go_end0
  exact ⟨rfl, rfl⟩
 ·have hx2 : (x != 0) = true := by simp; exact hx
  go_enter_d Tryz.func55, Tryz.ntmps55
  go_wp2_with fail
  go_end0
  exact ⟨rfl, rfl⟩
def rulesDefers (F R : Nat) : List Deferred := [{ target := .fn (.func 35) #[], args := #[.pointer (some ⟨F, 0, none⟩)] }, { target := .fn (.func 55) #[.pointer (some ⟨F, 0, none⟩), .pointer (some ⟨R, 0, none⟩)], args := #[] }]
set_option maxRecDepth 100000 in
theorem rules_returns (tmps : Array Value) (F R : Nat) (p : Int) (v : Value) (tF tR : TypeId) (W : World) (Q : Ending → World → Prop) (h2 : tmps[2]? = some (.pointer (some ⟨R, 0, none⟩))) (h3 : tmps[3]? = some (.pointer (some ⟨F, 0, none⟩)))
 (hF : Blk W F tF #[.int .i64 0, .int .i64 p]) (hR : Blk W R tR #[v]) (hQ : Q (.returned (.tuple #[v, .agg #[.int .i64 0, .int .i64 p]])) W) : Leaves Tryz.prog Tryz.f21 tmps Q (rulesDefers F R) .returning W := by
 have y0 := hR.cell 0
 have y1 := hF.cell 0
 have y2 := hF.cell 1
 refine leaves_cons (f := 35) (args := #[.pointer (some ⟨F, 0, none⟩)]) (by simp) (by simp [go_sem]) ?_
 refine (caught_idle ⟨F, 0, none⟩ W).mono ?_
 rintro e u' w'' ⟨rfl, rfl, rfl⟩
 show Leaves Tryz.prog Tryz.f21 tmps Q _ (settle .returning) w''
 simp only [settle]
 refine leaves_cons (f := 55) (args := #[.pointer (some ⟨F, 0, none⟩), .pointer (some ⟨R, 0, none⟩)]) (by simp) (by simp [go_sem]) ?_
 refine (rules_end F R 0 p v tF tR .returning w'' hF hR).mono ?_
 rintro e u' w3 ⟨rfl, rfl, hw⟩
 rw [if_pos rfl] at hw
 subst hw
 refine ⟨_, ?_, hQ⟩
 simp [results, Tryz.results21, go_sem, h2, h3, y0, y1, y2]
set_option maxRecDepth 100000 in
theorem rules_thrown (tmps : Array Value) (F R B : Nat) (x p a b : Int) (v : Value) (tF tR : TypeId) (W : World) (Q : Ending → World → Prop) (h2 : tmps[2]? = some (.pointer (some ⟨R, 0, none⟩))) (h3 : tmps[3]? = some (.pointer (some ⟨F, 0, none⟩)))
 (hF : Blk W F tF #[.int .i64 a, .int .i64 b]) (hR : Blk W R tR #[v]) (hne : R ≠ F) (hBF : B ≤ F) (hBR : B ≤ R) (hBW : B ≤ W.heap.size) (hx : x ≠ 0) (hQ : ∀ W2, Below B W W2 → Q (.returned (.tuple #[.slice none 0 0, .agg #[.int .i64 x, .int .i64 p]])) W2) :
 Leaves Tryz.prog Tryz.f21 tmps Q (rulesDefers F R) (.panicking [{ v := .iface 126 (.agg #[.int .i64 x, .int .i64 p]), recovered := false }]) W := by
 refine leaves_cons (f := 35) (args := #[.pointer (some ⟨F, 0, none⟩)]) (by simp) (by simp [go_sem]) ?_
 refine (caught_thrown F x p a b tF [] W hF).mono ?_
 rintro e u' w'' ⟨rfl, rfl, hB2, hbut⟩
 have hR2 : Blk w'' R tR #[v] := (hbut.2.2.2.2 R hR.lt hne).trans hR
 show Leaves Tryz.prog Tryz.f21 tmps Q _ (settle (.panicking [{ v := .iface 126 (.agg #[.int .i64 x, .int .i64 p]), recovered := true }])) w''
 simp only [settle, List.dropWhile]
 refine leaves_cons (f := 55) (args := #[.pointer (some ⟨F, 0, none⟩), .pointer (some ⟨R, 0, none⟩)]) (by simp) (by simp [go_sem]) ?_
 refine (rules_end F R x p v tF tR .returning w'' hB2 hR2).mono ?_
 rintro e u' w3 ⟨rfl, rfl, hw⟩
 rw [if_neg hx] at hw
 subst hw
 have hb3 := But.set w'' R 0 (.slice none 0 0)
 have hF3 : Blk (w''.setCell ⟨R, 0, none⟩ (.slice none 0 0)) F tF #[.int .i64 x, .int .i64 p] := (hb3.2.2.2.2 F hB2.lt (Ne.symm hne)).trans hB2
 have hR3 : Blk (w''.setCell ⟨R, 0, none⟩ (.slice none 0 0)) R tR #[.slice none 0 0] := hR2.put 0 _
 have y0 := hR3.cell 0
 have y1 := hF3.cell 0
 have y2 := hF3.cell 1
 have hQ2 := hQ _ ((hbut.to hBW hBF).trans (hb3.to (Nat.le_trans hBW hbut.1) hBR))
 generalize w''.setCell ⟨R, 0, none⟩ (.slice none 0 0) = w9 at *
 refine ⟨_, ?_, hQ2⟩
 simp [results, Tryz.results21, go_sem, h2, h3, y0, y1, y2]
def PtOwn (lo C : Nat) (w : World) (v : Value) (l : List PartD) : Prop := OwnL (PartX w (ItX lo C v)) 98 16 w lo v l
theorem PtOwn.nil (lo C : Nat) (w : World) : PtOwn lo C w (.slice none 0 0) [] := OwnL.nil _ _
theorem PtOwn.form {lo C : Nat} {w : World} {v : Value} {l : List PartD} (h : PtOwn lo C w v l) : ∃ A c, v = .slice A l.length c ∧ l.length ≤ c := OwnL.form h
theorem PtOwn.but {lo C : Nat} {w w' : World} {v : Value} {l : List PartD} (h : PtOwn lo C w v l) (hb : But w C w') (hC : C < lo) : PtOwn lo C w' v l :=
 OwnL.kept (fun _ _ ho => own_but ho hb hC) (fun _ _ => PartX.keep (hb.keeps (fun _ h => h.2.1) (fun _ h _ => h))) h
theorem PtOwn.below {lo C : Nat} {w w' : World} {v : Value} {l : List PartD} (h : PtOwn lo C w v l) (hb : Below w.heap.size w w') : PtOwn lo C w' v l :=
 OwnL.kept (fun _ _ ho => own_below ho hb) (fun _ _ => PartX.keep (Keeps.any hb)) h
theorem PtOwn.put {lo C : Nat} {w : World} {v : Value} {l : List PartD} (h : PtOwn lo C w v l) {g : Nat} (hg : g < lo) (i : Nat) (u : Value) : PtOwn lo C (w.setCell ⟨g, i, none⟩ u) v l :=
 OwnL.kept (fun _ _ ho => own_set_lt ho hg) (fun _ _ => PartX.keep (Keeps.setCell (p := ⟨g, i, none⟩) u (fun b hb => by have := hb.1; show b ≠ g; omega) (fun _ h _ => h))) h
theorem PtOwn.apart {lo C : Nat} {w : World} {v : Value} {l : List PartD} (h : PtOwn lo C w v l) {b : Nat} (hb : w.heap.size ≤ b) : v.ownBlock ≠ some b := by
 obtain ⟨css, h1, h2, h3, h4⟩ := h
 intro e
 have := (own_lt h4 e).2
 omega
theorem PtOwn.push {lo C : Nat} {w : World} {v : Value} {l : List PartD} (h : PtOwn lo C w v l) (a : PartD) {cs : List Value} (ha : PartX w (ItX lo C v) a cs) :
 ∃ ys, w.ownsRow lo 98 16 v l.length ys ∧ ∀ v' w', Appended lo 98 16 v w (l.length + 1) (ys ++ cs) v' w' → PtOwn lo C w' v' (l ++ [a]) := by
 obtain ⟨css, h1, h2, h3, h4⟩ := h
 refine ⟨css.flatten, h4, fun v' w' happ => ?_⟩
 have hk : Keeps w (ItX lo C v) w' (ItX lo C v') := itX_app happ
 exact OwnL.push h1 h2 h3 (fun _ _ => PartX.keep hk) (ha.keep hk) ha.one.1 happ
theorem PtOwn.done {lo C : Nat} {w : World} {A : Option Addr} {c : Nat} {l : List PartD} (h : PtOwn lo C w (.slice A l.length c) l) : PartsX w (fun b => lo ≤ b) A l.length l := by
 have hh := h
 obtain ⟨css, h1, h2, h3, h4⟩ := hh
 exact OwnL.done h (fun _ _ => PartX.keep (Keeps.refl (fun b hb => hb.1))) (fun b hb => (own_lt h4 hb).1)
structure RdFl (w : World) (C : Nat) (A : Option Addr) (n c : Nat) (L : List Int) (wr : World) (j : Nat) (v : Value) (acc : List PartD) : Prop where
 cur : CurAt wr C A n c L j
 row : RdX wr (fun b => w.heap.size + 2 ≤ b ∧ b < C) 1 A n (runeCells L)
 res : Blk wr w.heap.size 41 #[v]
 flt : Blk wr (w.heap.size + 1) 25 #[.int .i64 0, .int .i64 0]
 own : PtOwn (C + 1) C wr v acc
 below : Below w.heap.size w wr
 hC : w.heap.size + 2 ≤ C
section
variable {w wr w' : World} {C : Nat} {A : Option Addr} {n c : Nat} {L : List Int} {j j' : Nat} {v : Value} {acc : List PartD}
theorem RdFl.step (h : RdFl w C A n c L wr j v acc) (hc : CurAt w' C A n c L j') (hb : But wr C w') : RdFl w C A n c L w' j' v acc := by
 have hC := h.hC
 exact ⟨hc, h.row.keep (hb.keeps (fun b h => by have := h.2; omega) (fun _ h _ => h)), (hb.2.2.2.2 _ h.res.lt (by omega)).trans h.res, (hb.2.2.2.2 _ h.flt.lt (by omega)).trans h.flt, h.own.but hb (Nat.lt_succ_self _), h.below.trans (hb.to h.below.size (by omega)), hC⟩
theorem RdFl.on (h : RdFl w C A n c L wr j v acc) (hb : Below wr.heap.size wr w') : RdFl w C A n c L w' j v acc :=
 ⟨h.cur.below hb, h.row.keep (Keeps.any hb), h.res.below hb h.res.lt, h.flt.below hb h.flt.lt, h.own.below hb, h.below.trans (hb.mono h.below.size), h.hC⟩
theorem RdFl.push (h : RdFl w C A n c L wr j v acc) {v' : Value} {w9 : World} {m : Nat} {ys zs : List Value} {l : List PartD} (hown : wr.ownsRow (C + 1) 98 16 v m ys) (happ : Appended (C + 1) 98 16 v wr (m + 1) zs v' w9) (hn : PtOwn (C + 1) C w9 v' l) (hsz : C + 1 ≤ wr.heap.size) :
 RdFl w C A n c L (w9.setCell ⟨w.heap.size, 0, none⟩ v') j v' l := by
 have hC := h.hC
 have hb9 : Below (C + 1) wr w9 := happ.below hsz hown
 have hcb : CurAt w9 C A n c L j := ⟨h.cur.blk.same (hb9.block C (Nat.lt_succ_self _)), ((h.row.keep (X' := fun b => w.heap.size + 2 ≤ b ∧ b < C) (fun b hX hl => ⟨hb9.block b (by omega), hX, Nat.lt_of_lt_of_le hl hb9.size⟩)).lift (fun b h => by have := h.2; omega)), h.cur.size, h.cur.le, h.cur.cap⟩
 have hrow9 : RdX w9 (fun b => w.heap.size + 2 ≤ b ∧ b < C) 1 A n (runeCells L) := h.row.keep (fun b hX hl => ⟨hb9.block b (by omega), hX, Nat.lt_of_lt_of_le hl hb9.size⟩)
 have hres9 : Blk w9 w.heap.size 41 #[v] := (hb9.block _ (by omega)).trans h.res
 have hflt9 : Blk w9 (w.heap.size + 1) 25 #[.int .i64 0, .int .i64 0] := (hb9.block _ (by omega)).trans h.flt
 have hbel9 : Below w.heap.size w w9 := h.below.trans (hb9.mono (by omega))
 have hb := But.set w9 w.heap.size 0 v'
 have hrow : RdX (w9.setCell ⟨w.heap.size, 0, none⟩ v') (fun b => w.heap.size + 2 ≤ b ∧ b < C) 1 A n (runeCells L) := hrow9.keep (hb.keeps (fun b h => by have := h.1; omega) (fun _ h _ => h))
 exact ⟨⟨hcb.blk.same (hb.2.2.2.2 C hcb.blk.lt (by omega)), hrow.lift (fun b h => by have := h.2; omega), hcb.size, hcb.le, hcb.cap⟩, hrow, hres9.put 0 v', (hb.2.2.2.2 _ hflt9.lt (by omega)).trans hflt9, hn.put (by omega) 0 v', hbel9.trans (hb.to hbel9.size (Nat.le_refl _)), hC⟩
end
def RulesPost (w : World) (r : List PartD × (Int × Int)) (e : Ending) (w' : World) : Prop :=
 (∃ A n c, e = .returned (.tuple #[.slice A n c, .agg #[.int .i64 r.2.1, .int .i64 r.2.2]]) ∧ PartsX w' (fun b => w.heap.size ≤ b) A n r.1 ∧ n ≤ c) ∧ Below w.heap.size w w'
theorem PartsX.nil (w : World) (X : Nat → Prop) : PartsX w X none 0 [] := ⟨[], rfl, rfl, by simp, by simp, RdX.nil 16⟩
end Go.Proofs.YthnhbcohfoodlaaGreatDoor
