/- RdSpace + RdWord + RdName -/
import Derived.Test.YthnhbcohfoodlaaGreatDoorZt15
import Derived.Test.YthnhbcohfoodlaaGreatDoorZt37
namespace Go.Proofs.YthnhbcohfoodlaaGreatDoor
open Go.RowKit
theorem spaceF_end {L : List Int} {f j : Nat} (h : pk L (skipP L j) ≠ 35) : spaceF L (f + 1) j = skipP L j := by rw [spaceF, if_neg h]
theorem spaceF_on {L : List Int} {f j : Nat} (h : pk L (skipP L j) = 35) : spaceF L (f + 1) j = spaceF L f (runFrom remB L (skipP L j)) := by rw [spaceF, if_pos h]
theorem rd_letter (r : Int) (w : World) :
 Calls Tryz.prog 178 #[.int .i32 r] w fun e w' => e = .returned (.bool (letB r)) ∧ w' = w := by
 go_enter Tryz.func178, Tryz.ntmps178
 go_wp2
 all_goals go_ret
 all_goals refine ⟨ret_bool ?_, rfl⟩
 all_goals (rw [Bool.eq_iff_iff]; simp [letB]; try omega)
set_option maxHeartbeats 3200000 in
set_option maxRecDepth 100000 in
theorem rd_space (w : World) (C : Nat) (A : Option Addr) (n c : Nat) (L : List Int) (i : Nat) (h : CurAt w C A n c L i) :
 Calls Tryz.prog 56 #[.pointer (some ⟨C, 0, none⟩)] w fun e w' => e = .returned (.tuple #[]) ∧ CurAt w' C A n c L (spaceP L i) ∧ But w C w' := by
 have hs := h.size
 have hl := h.len
 have HC := Lib.hid h
 clear h
 go_enter Tryz.func56, Tryz.ntmps56
 go_wp2_with fail
 go_loopw [2] (fun _ wr => ∃ f j : Nat, j ≤ n ∧ n + 1 ≤ f + j ∧ spaceP L i = spaceF L f j ∧ CurAt wr C A n c L j ∧ But w C wr) (fun _ wr => n - (match wr.cell? ⟨C, 1, none⟩ with | some (.int _ j) => j.toNat | _ => 0))
 case atStart => exact ⟨L.length + 1, i, HC.out.le, by omega, rfl, HC.out, But.refl _ _⟩
 case round =>
  obtain ⟨f0, j, hj, hf, hsp, hc, hb⟩ := hrel
  obtain ⟨f, rfl⟩ : ∃ f, f0 = f + 1 := ⟨f0 - 1, by omega⟩
  have HJ := Lib.hid hc
  have HB := Lib.hid hb
  have HSP := Lib.hid hsp
  have HM0 := Lib.hid (hc.blk.cell 1)
  obtain ⟨k, hk⟩ : ∃ k, skipP L j = k := ⟨_, rfl⟩
  have HK := Lib.hid hk
  have hjk : j ≤ k := by rw [← hk]; exact skipP_ge L j
  have HPK := Lib.hid (fun (W : World) (m : Nat) (h : CurAt W C A n c L m) => cur_peek2 W C A n c L m h)
  clear hc hb hsp
  go_wp2_with fail
  refine (cur_skip wr C A n c L j HJ.out).mono ?_
  rintro e w1 ⟨rfl, hc1, hb1⟩
  rw [hk] at hc1
  have HC1 := Lib.hid hc1
  have HB1 := Lib.hid (HB.out.trans hb1)
  clear hc1 hb1 hk
  go_wp2_with fail
  refine (HPK.out _ k HC1.out).mono ?_
  rintro e w2 ⟨rfl, hc2, hb2⟩
  have HC2 := Lib.hid hc2
  have HB2 := Lib.hid (HB1.out.trans hb2)
  clear hc2 hb2
  by_cases h35 : pk L k = 35
  ·have hlt : k < L.length := pk_lt (by omega)
   have HON := Lib.hid (show spaceP L i = spaceF L f (runFrom remB L k) by rw [HSP.out, spaceF_on (by rw [HK.out]; exact h35), HK.out])
   have HGE := Lib.hid (show k + 1 ≤ runFrom remB L k by rw [runFrom_in hlt (by rw [h35]; rfl)]; exact runFrom_ge _ _ _)
   have HLE := Lib.hid (show runFrom remB L k ≤ n by rw [← hl]; exact (runFrom_le (Nat.le_of_lt hlt)).2)
   obtain ⟨m0, hm0⟩ : ∃ m0, runFrom remB L k = m0 := ⟨_, rfl⟩
   rw [hm0] at HON HGE HLE
   have HM := Lib.hid hm0
   rw [h35]
   clear hm0 h35
   go_wp2_with fail
   go_loopw [11] (fun _ wy => ∃ m : Nat, k ≤ m ∧ m ≤ n ∧ m0 = runFrom remB L m ∧ CurAt wy C A n c L m ∧ But w C wy) (fun _ wy => n - (match wy.cell? ⟨C, 1, none⟩ with | some (.int _ j) => j.toNat | _ => 0))
   case atStart => exact ⟨k, Nat.le_refl _, by omega, HM.out.symm, HC2.out, HB2.out⟩
   case round =>
    obtain ⟨m, hkm, hmn, hrun, hcm, hbm⟩ := hrel
    have HCM := Lib.hid hcm
    have HBM := Lib.hid hbm
    have HRM := Lib.hid hrun
    have HN0 := Lib.hid (hcm.blk.cell 1)
    clear hcm hbm hrun
    cases hrem : remB (pk L m) with
    | true =>
      have hltm : m < L.length := pk_lt (fun e => by rw [e] at hrem; exact absurd hrem (by decide))
      have HNX := Lib.hid (HRM.out.trans (runFrom_in hltm hrem))
      have h0 : 0 ≤ pk L m ∧ pk L m ≠ 10 := by simpa [remB] using hrem
      have hg0 : decide ((0 : Int) ≤ pk L m) = true := decide_eq_true h0.1
      have hg1 : (pk L m != 10) = true := by simp; exact h0.2
      have hwm : IntKind.i64.wrap ((m : Int) + 1) = (m : Int) + 1 := wrap_small _ (by omega) (by omega)
      clear hrem h0
      go_wp2_with fail
      refine (HPK.out _ m HCM.out).mono ?_
      rintro e w3 ⟨rfl, hc3, hb3⟩
      have HC3 := Lib.hid hc3
      have HB3 := Lib.hid (HBM.out.trans hb3)
      clear hc3 hb3
      go_wp2_with fail
      refine (HPK.out _ m HC3.out).mono ?_
      rintro e w4 ⟨rfl, hc4, hb4⟩
      have HC4 := Lib.hid hc4
      have HB4 := Lib.hid (HB3.out.trans hb4)
      clear hc4 hb4
      obtain ⟨d1, d2, d3, d4⟩ := HC4.out.step (by omega)
      have HMV := Lib.hid d3
      have HB5 := Lib.hid (HB4.out.trans d4)
      clear d3 d4
      go_wp2_with fail
      refine ⟨⟨m + 1, by omega, by omega, HNX.out, HMV.out, HB5.out⟩, ?_⟩
      have e1 : (w4.setCell ⟨C, 1, none⟩ (.int .i64 ((m : Int) + 1))).cell? ⟨C, 1, none⟩ = some (.int .i64 ((m + 1 : Nat) : Int)) := HMV.out.blk.cell 1
      have e2 : wr.cell? ⟨C, 1, none⟩ = some (.int .i64 (m : Int)) := HN0.out
      rw [e1, e2]
      simp only [Int.toNat_natCast]
      omega
    | false =>
      obtain rfl : m0 = m := HRM.out.trans (runFrom_out (fun _ => hrem))
      have hor : pk L m0 < 0 ∨ (0 ≤ pk L m0 ∧ pk L m0 = 10) := by
       simp [remB] at hrem
       by_cases h : pk L m0 < 0
       ·exact .inl h
       ·exact .inr ⟨by omega, hrem (by omega)⟩
      have hge := HGE.out
      clear hrem HRM
      rcases hor with h0 | ⟨_, h0⟩
      ·go_wp2_with fail
       refine (HPK.out _ m0 HCM.out).mono ?_
       rintro e w3 ⟨rfl, hc3, hb3⟩
       have HC3 := Lib.hid hc3
       have HB3 := Lib.hid (HBM.out.trans hb3)
       clear hc3 hb3
       go_wp2_with fail
       refine ⟨⟨f, m0, hmn, by omega, HON.out, HC3.out, HB3.out⟩, ?_⟩
       rw [HC3.out.blk.cell 1, HM0.out]
       simp only [Int.toNat_natCast, List.getElem?_toArray, List.getElem?_cons_succ, List.getElem?_cons_zero]
       omega
      ·go_wp2_with fail
       refine (cur_peek2 _ C A n c L m0 HCM.out).mono ?_
       rintro e w3 ⟨rfl, hc3, hb3⟩
       rw [h0]
       have HC3 := Lib.hid hc3
       have HB3 := Lib.hid (HBM.out.trans hb3)
       clear hc3 hb3
       go_wp2_with fail
       refine (cur_peek2 _ C A n c L m0 HC3.out).mono ?_
       rintro e w4 ⟨rfl, hc4, hb4⟩
       rw [h0]
       have HC4 := Lib.hid hc4
       have HB4 := Lib.hid (HB3.out.trans hb4)
       clear hc4 hb4
       go_wp2_with fail
       refine ⟨⟨f, m0, hmn, by omega, HON.out, HC4.out, HB4.out⟩, ?_⟩
       rw [HC4.out.blk.cell 1, HM0.out]
       simp only [Int.toNat_natCast, List.getElem?_toArray, List.getElem?_cons_succ, List.getElem?_cons_zero]
       omega
  ·have HEND := Lib.hid (show spaceP L i = k by rw [HSP.out, spaceF_end (by rw [HK.out]; exact h35), HK.out])
   have hq : (pk L k != 35) = true := by simp; exact h35
   clear h35
   go_wp2_with fail
   (try simp only [Exit.inBlock, Exit.then])
   refine bodyPost_ret (results_none rfl _ _ _) rfl ?_
   rw [HEND.out]
   exact ⟨rfl, HC2.out, HB2.out⟩
def RdPost {α : Type} (V : α → Value) (w : World) (C : Nat) (A : Option Addr) (n c : Nat) (L : List Int) (r : Rdg α) (e : Ending) (w' : World) : Prop :=
 match r with
 | .ok (d, j) => e = .returned (V d) ∧ CurAt w' C A n c L j ∧ But w C w'
 | .error (x, p) => e = thrown x p ∧ But w C w'
set_option maxHeartbeats 3200000 in
theorem rd_arrow (w : World) (C : Nat) (A : Option Addr) (n c : Nat) (L : List Int) (i : Nat) (h : CurAt w C A n c L i) :
 Calls Tryz.prog 101 #[.pointer (some ⟨C, 0, none⟩)] w (RdPost (Value.int .i64) w C A n c L (arrowR L i)) := by
 have hs := h.size
 have hl := h.len
 have hle := h.le
 have HC := Lib.hid h
 have HPK := Lib.hid (fun (W : World) (m : Nat) (h : CurAt W C A n c L m) => cur_peek2 W C A n c L m h)
 have HLK := Lib.hid (fun (W : World) (h : CurAt W C A n c L i) => cur_look2 W C A n c L i 1 h (by decide))
 have hw1 : IntKind.i64.wrap ((i : Int) + 1) = (i : Int) + 1 := wrap_small _ (by omega) (by omega)
 have hw2 : IntKind.i64.wrap ((i : Int) + 2) = (i : Int) + 2 := wrap_small _ (by omega) (by omega)
 clear h
 obtain ⟨R, hR⟩ : ∃ R, arrowR L i = R := ⟨_, rfl⟩
 rw [hR]
 have HR0 := Lib.hid hR
 clear hR
 by_cases h62 : pk L i = 62
 ·have HR1 := Lib.hid (show R = .ok (1, i + 1) by rw [← HR0.out]; unfold arrowR; rw [if_pos h62])
  have hlt : i < L.length := pk_lt (by omega)
  go_enter Tryz.func101, Tryz.ntmps101
  go_wp2_with fail
  refine (HPK.out _ i HC.out).mono ?_
  rintro e w1 ⟨rfl, hc1, hb1⟩
  rw [h62]
  have HC1 := Lib.hid hc1
  have HB1 := Lib.hid hb1
  clear hc1 hb1 h62
  obtain ⟨d1, d2, d3, d4⟩ := HC1.out.step (by omega)
  have HMV := Lib.hid d3
  have HB5 := Lib.hid (HB1.out.trans d4)
  clear d3 d4
  go_wp2_with fail
  go_ret
  rw [HR1.out]
  exact ⟨rfl, HMV.out, HB5.out⟩
 ·have q62 : (pk L i == 62) = false := by rw [beq_eq_false_iff_ne]; exact h62
  by_cases h60 : pk L i = 60
  ·have hlt : i < L.length := pk_lt (by omega)
   by_cases h2 : pk L (i + 1) = 62
   ·have HR1 := Lib.hid (show R = .ok (3, i + 2) by rw [← HR0.out]; unfold arrowR; rw [if_neg h62, if_pos ⟨h60, h2⟩])
    have hlt2 : i + 1 < L.length := pk_lt (by omega)
    go_enter Tryz.func101, Tryz.ntmps101
    go_wp2_with fail
    refine (HPK.out _ i HC.out).mono ?_
    rintro e w1 ⟨rfl, hc1, hb1⟩
    have HC1 := Lib.hid hc1
    have HB1 := Lib.hid hb1
    clear hc1 hb1
    go_wp2_with fail
    refine (HPK.out _ i HC1.out).mono ?_
    rintro e w2 ⟨rfl, hc2, hb2⟩
    rw [h60]
    have HC2 := Lib.hid hc2
    have HB2 := Lib.hid (HB1.out.trans hb2)
    clear hc2 hb2
    go_wp2_with fail
    refine (HLK.out _ HC2.out).mono ?_
    rintro e w3 ⟨rfl, hc3, hb3⟩
    rw [h2]
    have HC3 := Lib.hid hc3
    have HB3 := Lib.hid (HB2.out.trans hb3)
    clear hc3 hb3
    have d1 := HC3.out.blk.cell 1
    have d2 := HC3.out.blk.frozen 1
    have hm := HC3.out.move (j := i + 2) (by omega)
    rw [show (((i + 2 : Nat)) : Int) = (i : Int) + 2 by omega] at hm
    have HMV := Lib.hid hm
    have HB5 := Lib.hid (HB3.out.trans (But.set w3 C 1 (.int .i64 ((i : Int) + 2))))
    clear hm
    go_wp2_with fail
    go_ret
    rw [HR1.out]
    exact ⟨rfl, HMV.out, HB5.out⟩
   ·have q2 : (pk L (i + 1) == 62) = false := by rw [beq_eq_false_iff_ne]; exact h2
    have HR1 := Lib.hid (show R = .ok (2, i + 1) by rw [← HR0.out]; unfold arrowR; rw [if_neg h62, if_neg (fun h => h2 h.2)]; unfold needP; rw [if_pos h60])
    have HND := Lib.hid (fun (W : World) (h : CurAt W C A n c L i) => show Calls Tryz.prog 59 #[.pointer (some ⟨C, 0, none⟩), .int .i32 60] W fun e w' => e = .returned (.tuple #[]) ∧ CurAt w' C A n c L (i + 1) ∧ But W C w' by have := cur_need W C A n c L i 60 h (by decide); rwa [show needP L i 60 = .ok (i + 1) by unfold needP; rw [if_pos h60]] at this)
    go_enter Tryz.func101, Tryz.ntmps101
    go_wp2_with fail
    refine (HPK.out _ i HC.out).mono ?_
    rintro e w1 ⟨rfl, hc1, hb1⟩
    have HC1 := Lib.hid hc1
    have HB1 := Lib.hid hb1
    clear hc1 hb1
    go_wp2_with fail
    refine (HPK.out _ i HC1.out).mono ?_
    rintro e w2 ⟨rfl, hc2, hb2⟩
    rw [h60]
    have HC2 := Lib.hid hc2
    have HB2 := Lib.hid (HB1.out.trans hb2)
    clear hc2 hb2
    go_wp2_with fail
    refine (HLK.out _ HC2.out).mono ?_
    rintro e w3 ⟨rfl, hc3, hb3⟩
    have HC3 := Lib.hid hc3
    have HB3 := Lib.hid (HB2.out.trans hb3)
    clear hc3 hb3
    go_wp2_with fail
    refine (HND.out _ HC3.out).mono ?_
    rintro e w4 ⟨rfl, hc4, hb4⟩
    have HC4 := Lib.hid hc4
    have HB4 := Lib.hid (HB3.out.trans hb4)
    clear hc4 hb4
    go_wp2_with fail
    go_ret
    rw [HR1.out]
    exact ⟨rfl, HC4.out, HB4.out⟩
  ·have q60 : (pk L i == 60) = false := by rw [beq_eq_false_iff_ne]; exact h60
   have HR1 := Lib.hid (show R = .error (2, i) by rw [← HR0.out]; unfold arrowR; rw [if_neg h62, if_neg (fun h => h60 h.1)]; unfold needP; rw [if_neg h60])
   have HND := Lib.hid (fun (W : World) (h : CurAt W C A n c L i) => show Calls Tryz.prog 59 #[.pointer (some ⟨C, 0, none⟩), .int .i32 60] W fun e w' => e = thrown 2 i ∧ But W C w' by have := cur_need W C A n c L i 60 h (by decide); rwa [show needP L i 60 = .error (2, i) by unfold needP; rw [if_neg h60]] at this)
   go_enter Tryz.func101, Tryz.ntmps101
   go_wp2_with fail
   refine (HPK.out _ i HC.out).mono ?_
   rintro e w1 ⟨rfl, hc1, hb1⟩
   have HC1 := Lib.hid hc1
   have HB1 := Lib.hid hb1
   clear hc1 hb1
   go_wp2_with fail
   refine (HPK.out _ i HC1.out).mono ?_
   rintro e w2 ⟨rfl, hc2, hb2⟩
   have HC2 := Lib.hid hc2
   have HB2 := Lib.hid (HB1.out.trans hb2)
   clear hc2 hb2
   go_wp2_with fail
   refine (HND.out _ HC2.out).mono ?_
   rintro e w4 ⟨he, hb4⟩
   unfold thrown at he
   subst he
   have HB4 := Lib.hid (HB2.out.trans hb4)
   clear hb4
   go_wp2_with fail
   rw [HR1.out]
   exact ⟨rfl, rfl, HB4.out⟩
end Go.Proofs.YthnhbcohfoodlaaGreatDoor

namespace Go.Proofs.YthnhbcohfoodlaaGreatDoor
open Go.RowKit
def ldB (r : Int) : Bool := letB r || digB r
theorem wordEnd_no {L : List Int} {i : Nat} (h : letB (pk L i) = false) : wordEnd L i = i := by unfold wordEnd; rw [h]; rfl
theorem wordEnd_yes {L : List Int} {i : Nat} (h : letB (pk L i) = true) : wordEnd L i = runFrom ldB L (i + 1) := by
 have hlt : i < L.length := pk_lt (fun e => by rw [e] at h; exact absurd h (by decide))
 unfold wordEnd
 rw [if_pos h]
 exact runFrom_in (p := ldB) hlt (by unfold ldB; rw [h]; rfl)
def WdAt (L : List Int) (i j : Nat) : Prop := j = i ∨ (i < j ∧ wordEnd L i = runFrom ldB L j)
theorem WdAt.next {L : List Int} {i j : Nat} (h : WdAt L i j) (hj : letB (pk L j) = true ∨ (i < j ∧ digB (pk L j) = true)) : WdAt L i (j + 1) := by
 have hl : ldB (pk L j) = true := by
  unfold ldB
  rcases hj with h | h
  ·rw [h]; rfl
  ·rw [h.2, Bool.or_true]
 have hlt : j < L.length := pk_lt (fun e => by rw [e] at hl; exact absurd hl (by decide))
 rcases h with rfl | ⟨h1, h2⟩
 ·rcases hj with h | h
  ·exact .inr ⟨by omega, wordEnd_yes h⟩
  ·omega
 ·exact .inr ⟨by omega, h2.trans (runFrom_in hlt hl)⟩
theorem WdAt.done {L : List Int} {i j : Nat} (h : WdAt L i j) (h1 : letB (pk L j) = false) (h2 : i < j → digB (pk L j) = false) : wordEnd L i = j := by
 rcases h with rfl | ⟨h3, h4⟩
 ·exact wordEnd_no h1
 ·rw [h4]
  exact runFrom_out (fun _ => by unfold ldB; rw [h1, h2 h3]; rfl)
set_option maxHeartbeats 6400000 in
set_option maxRecDepth 100000 in
theorem rd_word (w : World) (C : Nat) (A : Option Addr) (n c : Nat) (L : List Int) (i : Nat) (h : CurAt w C A n c L i) (h0 : 0 < n) :
 Calls Tryz.prog 95 #[.pointer (some ⟨C, 0, none⟩)] w fun e w' => e = .returned (.string (wordT L i)) ∧ CurAt w' C A n c L (wordEnd L i) ∧ But w C w' := by
 have hs := h.size
 have hl := h.len
 have hi := h.le
 obtain ⟨b, off, rfl, _, _⟩ := h.at h0
 have HC := Lib.hid h
 have HPK := Lib.hid (fun (W : World) (m : Nat) (h : CurAt W C (some ⟨b, off, none⟩) n c L m) => cur_peek2 W C (some ⟨b, off, none⟩) n c L m h)
 have c1 := h.blk.cell 1
 clear h
 go_enter Tryz.func95, Tryz.ntmps95
 go_upto_block 0 with (go_at_call 57; refine (HPK.out _ i HC.out).mono ?_; rintro e w1 ⟨rfl, hc1, hb1⟩)
 have HC1 := Lib.hid hc1
 have HB1 := Lib.hid hb1
 clear hc1 hb1 c1
 go_cut [3] (fun v wx => v = .int .i64 (i : Int) ∧ CurAt wx C (some ⟨b, off, none⟩) n c L (wordEnd L i) ∧ But w C wx)
 case first =>
  go_wp2_with fail
  go_loopw [4] (fun v wr => ∃ j : Nat, i ≤ j ∧ j ≤ n ∧ v = .int .i32 (pk L j) ∧ WdAt L i j ∧ CurAt wr C (some ⟨b, off, none⟩) n c L j ∧ But w C wr) (fun _ wr => n - (match wr.cell? ⟨C, 1, none⟩ with | some (.int _ j) => j.toNat | _ => 0))
  case atStart => exact ⟨i, Nat.le_refl _, hi, rfl, .inl rfl, HC1.out, HB1.out⟩
  case round =>
   obtain ⟨j, hij, hjn, rfl, hwd, hcj, hbj⟩ := hrel
   have HJ := Lib.hid hcj
   have HB := Lib.hid hbj
   have HWD := Lib.hid hwd
   have HM0 := Lib.hid (hcj.blk.cell 1)
   have k1 := hcj.blk.cell 1
   clear hcj hbj hwd
   have HDONE := Lib.hid (fun h1 h2 => HWD.out.done h1 h2)
   have HNEXT := Lib.hid (fun hj => HWD.out.next hj)
   have HP1 := Lib.hid (fun (W : World) (h : CurAt W C (some ⟨b, off, none⟩) n c L (j + 1)) => HPK.out W (j + 1) h)
   obtain ⟨x, hx⟩ : ∃ x, pk L j = x := ⟨_, rfl⟩
   have hjl : 0 ≤ x → j < n := fun h => by rw [← hl]; exact pk_lt (by rw [hx]; omega)
   rw [hx] at HDONE HNEXT
   rw [hx]
   have hwj : IntKind.i64.wrap ((j : Int) + 1) = (j : Int) + 1 := wrap_small _ (by omega) (by omega)
   clear hx
   have hcase : (letB x = true ∧ ((97 ≤ x ∧ x ≤ 122) ∨ x = 95)) ∨ (letB x = false ∧ i < j ∧ digB x = true ∧ 48 ≤ x ∧ x ≤ 57) ∨ (letB x = false ∧ (i < j → digB x = false) ∧ (x < 48 ∨ (48 ≤ x ∧ x ≤ 57 ∧ j = i) ∨ (57 < x ∧ x < 95) ∨ x = 96 ∨ 122 < x)) := by
    by_cases h1 : letB x = true
    ·exact .inl ⟨h1, by simpa [letB] using h1⟩
    ·rw [Bool.not_eq_true] at h1
     have h2 : ¬ ((97 ≤ x ∧ x ≤ 122) ∨ x = 95) := by simpa [letB] using h1
     right
     by_cases h3 : i < j ∧ digB x = true
     ·exact .inl ⟨h1, h3.1, h3.2, by simpa [digB] using h3.2⟩
     ·right
      refine ⟨h1, fun h4 => by rw [Bool.eq_false_iff]; exact fun h5 => h3 ⟨h4, h5⟩, ?_⟩
      by_cases h4 : 48 ≤ x ∧ x ≤ 57
      ·have : ¬ i < j := fun h5 => h3 ⟨h5, by simp [digB, h4]⟩
       omega
      ·omega
   rcases hcase with ⟨h1, hr⟩ | ⟨h1, hlt, h2, hr⟩ | ⟨h1, h2, hr⟩
   ·have HN := Lib.hid (HNEXT.out (.inl h1))
    have hjn2 : j < n := hjl (by omega)
    obtain ⟨d1, d2, d3, d4⟩ := HJ.out.step hjn2
    have HMV := Lib.hid d3
    have HB5 := Lib.hid (HB.out.trans d4)
    clear d3 d4
    rcases hr with ⟨r1, r2⟩ | r1
    all_goals
     go_wp2_with fail
     refine (HP1.out _ HMV.out).mono ?_
     rintro e w5 ⟨rfl, hc5, hb5⟩
     have HC5 := Lib.hid hc5
     have HB6 := Lib.hid (HB5.out.trans hb5)
     clear hc5 hb5
     go_wp2_with fail
     refine ⟨⟨j + 1, by omega, by omega, rfl, HN.out, HC5.out, HB6.out⟩, ?_⟩
     have e1 : w5.cell? ⟨C, 1, none⟩ = some (.int .i64 ((j + 1 : Nat) : Int)) := HC5.out.blk.cell 1
     have e2 : wr.cell? ⟨C, 1, none⟩ = some (.int .i64 (j : Int)) := HM0.out
     rw [e1, e2]
     simp only [Int.toNat_natCast]
     omega
   ·have HN := Lib.hid (HNEXT.out (.inr ⟨hlt, h2⟩))
    have hjn2 : j < n := hjl (by omega)
    obtain ⟨d1, d2, d3, d4⟩ := HJ.out.step hjn2
    have HMV := Lib.hid d3
    have HB5 := Lib.hid (HB.out.trans d4)
    have hgt : decide ((i : Int) < (j : Int)) = true := decide_eq_true (by omega)
    clear d3 d4
    obtain ⟨r1, r2⟩ := hr
    go_wp2_with fail
    refine (HP1.out _ HMV.out).mono ?_
    rintro e w5 ⟨rfl, hc5, hb5⟩
    have HC5 := Lib.hid hc5
    have HB6 := Lib.hid (HB5.out.trans hb5)
    clear hc5 hb5
    go_wp2_with fail
    refine ⟨⟨j + 1, by omega, by omega, rfl, HN.out, HC5.out, HB6.out⟩, ?_⟩
    have e1 : w5.cell? ⟨C, 1, none⟩ = some (.int .i64 ((j + 1 : Nat) : Int)) := HC5.out.blk.cell 1
    have e2 : wr.cell? ⟨C, 1, none⟩ = some (.int .i64 (j : Int)) := HM0.out
    rw [e1, e2]
    simp only [Int.toNat_natCast]
    omega
   ·have HE := Lib.hid (HDONE.out h1 h2)
    clear HDONE HNEXT HWD h1 h2
    rcases hr with r1 | ⟨r1, r2, r3⟩ | ⟨r1, r2⟩ | r1 | r1
    all_goals
     have q95 : (x == 95) = false := by rw [beq_eq_false_iff_ne]; omega
     by_cases hgt : (i : Int) < (j : Int)
     all_goals first
     | (exfalso; omega)
     | (go_wp2_with fail
        go_meet
        rw [HE.out]
        exact ⟨rfl, HJ.out, HB.out⟩)
 case rest =>
  obtain ⟨rfl, hcc, hbc⟩ := hcut
  have HT := Lib.hid (show wordT L i = runesBytes (textAt L i (wordEnd L i)) from rfl)
  have hir : i ≤ wordEnd L i := by
   unfold wordEnd
   split
   ·exact runFrom_ge _ _ _
   ·exact Nat.le_refl _
  obtain ⟨r, hr⟩ : ∃ r, wordEnd L i = r := ⟨_, rfl⟩
  rw [hr] at hcc HT hir
  have HRR := Lib.hid hr
  clear hr
  have HCC := Lib.hid hcc
  have HBC := Lib.hid hbc
  have hrn := hcc.le
  have d0 := hcc.blk.cell 0
  have d1 := hcc.blk.cell 1
  have hcv := cur_text (hcc.drewN 1) hir hrn
  have hk1 : (i : Int) ≤ (r : Int) := by omega
  have hk2 : (r : Int) ≤ (c : Int) := by have := hcc.cap; omega
  have hk3 : (0 : Int) ≤ (i : Int) := by omega
  clear hcc hbc HC1 HB1 HC
  generalize runesBytes (textAt L i r) = T at *
  go_upto_region 6 with fail
  refine wp_region_till (S := (fun w' => w'.cell? ⟨C, 0, none⟩ = some (.slice (some ⟨b, off, none⟩) n c) ∧ w'.cell? ⟨C, 1, none⟩ = some (.int .i64 r) ∧ (convert 61 9 (.slice (if c = i then some ⟨b, off, none⟩ else some ⟨b, off + i, none⟩) (r - i) (c - i))).run Tryz.prog w' = .ok (.string T) w')) [4, 10, 12] (by kernel_rfl) ⟨d0, d1, hcv⟩ (fun hHeld => ?_)
  refine wpTill_pure (i := 0) (oi := ⟨some 54, _, _, _, _, _⟩) (v := ?_) rfl (by kernel_rfl) (by kernel_rfl) (by kernel_rfl) (fun _ _ _ h => h) (Or.inl ⟨by rfl, ?_⟩) ?_
  rotate_left 1
  ·intro wq _
   go_simp
   try with_reducible rfl
  try simp only [Act.put, List.setIfInBounds_toArray, List.set_cons_zero, List.set_cons_succ]
  refine wpTill_pure (i := 1) (oi := ⟨some 55, _, _, _, _, _⟩) (v := ?_) rfl (by kernel_rfl) (by kernel_rfl) (by kernel_rfl) (fun _ _ _ h => h) (Or.inl ⟨by rfl, ?_⟩) ?_
  rotate_left 1
  ·intro wq _
   go_simp
   try with_reducible rfl
  try simp only [Act.put, List.setIfInBounds_toArray, List.set_cons_zero, List.set_cons_succ]
  refine wpTill_pure (i := 2) (oi := ⟨some 56, _, _, _, _, _⟩) (v := ?_) rfl (by kernel_rfl) (by kernel_rfl) (by kernel_rfl) (fun _ _ _ h => h) (Or.inl ⟨by rfl, ?_⟩) ?_
  rotate_left 1
  ·intro wq _
   go_simp
   try with_reducible rfl
  try simp only [Act.put, List.setIfInBounds_toArray, List.set_cons_zero, List.set_cons_succ]
  refine wpTill_pure (i := 3) (oi := ⟨some 57, _, _, _, _, _⟩) (v := ?_) rfl (by kernel_rfl) (by kernel_rfl) (by kernel_rfl) (fun _ _ _ h => h) (Or.inl ⟨by rfl, ?_⟩) ?_
  rotate_left 1
  ·intro wq _
   go_simp
   try with_reducible rfl
  try simp only [Act.put, List.setIfInBounds_toArray, List.set_cons_zero, List.set_cons_succ]
  refine wpTill_take (i := 4) (oi := ⟨some 58, _, _, _, _, _⟩) (v := ?_) rfl (by kernel_rfl) (by kernel_rfl) (by kernel_rfl) (by kernel_rfl) (by kernel_rfl) (fun _ _ _ h => h) (Or.inl ⟨by rfl, ?_⟩) (by assumption) ?_
  rotate_left 1
  ·intro wq hSw
   (try dsimp only at hSw)
   go_simp
   try with_reducible rfl
  try simp only [Act.put, List.setIfInBounds_toArray, List.set_cons_zero, List.set_cons_succ]
  refine wpTill_pure (i := 5) (oi := ⟨some 59, _, _, _, _, _⟩) (v := ?_) rfl (by kernel_rfl) (by kernel_rfl) (by kernel_rfl) (fun _ _ _ h => h) (Or.inl ⟨by rfl, ?_⟩) ?_
  rotate_left 1
  ·intro wq _
   go_simp
   try with_reducible rfl
  try simp only [Act.put, List.setIfInBounds_toArray, List.set_cons_zero, List.set_cons_succ]
  refine wpTill_pure (i := 6) (oi := ⟨some 60, _, _, _, _, _⟩) (v := ?_) rfl (by kernel_rfl) (by kernel_rfl) (by kernel_rfl) (fun _ _ _ h => h) (Or.inl ⟨by rfl, ?_⟩) ?_
  rotate_left 1
  ·intro wq _
   go_simp
   try with_reducible rfl
  try simp only [Act.put, List.setIfInBounds_toArray, List.set_cons_zero, List.set_cons_succ]
  refine wpTill_pure (i := 7) (oi := ⟨some 61, _, _, _, _, _⟩) (v := ?_) rfl (by kernel_rfl) (by kernel_rfl) (by kernel_rfl) (fun _ _ _ h => h) (Or.inl ⟨by rfl, ?_⟩) ?_
  rotate_left 1
  ·intro wq _
   go_simp
   try with_reducible rfl
  try simp only [Act.put, List.setIfInBounds_toArray, List.set_cons_zero, List.set_cons_succ]
  refine wpTill_pure (i := 8) (oi := ⟨some 62, _, _, _, _, _⟩) (v := ?_) rfl (by kernel_rfl) (by kernel_rfl) (by kernel_rfl) (fun _ _ _ h => h) (Or.inl ⟨by rfl, ?_⟩) ?_
  rotate_left 1
  ·intro wq _
   go_simp
   try with_reducible rfl
  try simp only [Act.put, List.setIfInBounds_toArray, List.set_cons_zero, List.set_cons_succ]
  refine wpTill_pure (i := 9) (oi := ⟨some 63, _, _, _, _, _⟩) (v := ?_) rfl (by kernel_rfl) (by kernel_rfl) (by kernel_rfl) (fun _ _ _ h => h) (Or.inl ⟨by rfl, ?_⟩) ?_
  rotate_left 1
  ·intro wq _
   go_simp
   try with_reducible rfl
  try simp only [Act.put, List.setIfInBounds_toArray, List.set_cons_zero, List.set_cons_succ]
  refine wpTill_take (i := 10) (oi := ⟨some 64, _, _, _, _, _⟩) (v := ?_) rfl (by kernel_rfl) (by kernel_rfl) (by kernel_rfl) (by kernel_rfl) (by kernel_rfl) (fun _ _ _ h => h) (Or.inl ⟨by rfl, ?_⟩) (by assumption) ?_
  rotate_left 1
  ·intro wq hSw
   (try dsimp only at hSw)
   go_simp
   try with_reducible rfl
  try simp only [Act.put, List.setIfInBounds_toArray, List.set_cons_zero, List.set_cons_succ]
  refine wpTill_pure (i := 11) (oi := ⟨some 65, _, _, _, _, _⟩) (v := ?_) rfl (by kernel_rfl) (by kernel_rfl) (by kernel_rfl) (fun _ _ _ h => h) (Or.inl ⟨by rfl, ?_⟩) ?_
  rotate_left 1
  ·intro wq _
   go_simp
   try with_reducible rfl
  try simp only [Act.put, List.setIfInBounds_toArray, List.set_cons_zero, List.set_cons_succ]
  refine wpTill_take (i := 12) (oi := ⟨some 66, _, _, _, _, _⟩) (v := ?_) rfl (by kernel_rfl) (by kernel_rfl) (by kernel_rfl) (by kernel_rfl) (by kernel_rfl) (fun _ _ _ h => h) (Or.inl ⟨by rfl, ?_⟩) (by assumption) ?_
  rotate_left 1
  ·intro wq hSw
   (try dsimp only at hSw)
   go_simp
   try with_reducible rfl
  try simp only [Act.put, List.setIfInBounds_toArray, List.set_cons_zero, List.set_cons_succ]
  refine wpTill_pure (i := 13) (oi := ⟨some 2, _, _, _, _, _⟩) (v := ?_) rfl (by kernel_rfl) (by kernel_rfl) (by kernel_rfl) (fun _ _ _ h => h) (Or.inl ⟨by rfl, ?_⟩) ?_
  rotate_left 1
  ·intro wq _
   go_simp
   try with_reducible rfl
  try simp only [Act.put, List.setIfInBounds_toArray, List.set_cons_zero, List.set_cons_succ]
  refine wpTill_done (by kernel_rfl) ?_ _
  generalize (if c = i then some ({ block := b, off := off } : Addr) else some { block := b, off := off + i }) = Z
  go_simp
  go_wp2_with fail
  go_ret
  rw [HT.out, HRR.out]
  exact ⟨rfl, HCC.out.drewN 1, HBC.out.trans (But.drewN wc C 1)⟩
end Go.Proofs.YthnhbcohfoodlaaGreatDoor

namespace Go.Proofs.YthnhbcohfoodlaaGreatDoor
open Go.RowKit
set_option maxHeartbeats 1600000 in
theorem rd_name (w : World) (C : Nat) (A : Option Addr) (n c : Nat) (L : List Int) (i : Nat) (h : CurAt w C A n c L i) (h0 : 0 < n) :
 Calls Tryz.prog 99 #[.pointer (some ⟨C, 0, none⟩)] w (RdPost Value.string w C A n c L (nameP L i)) := by
 have HW := Lib.hid (rd_word w C A n c L i h h0)
 have c1 := h.blk.cell 1
 have HN := Lib.hid (show nameP L i = if namedP (wordT L i) = true then .ok (wordT L i, wordEnd L i) else .error (7, i) from rfl)
 obtain ⟨R, hR⟩ : ∃ R, nameP L i = R := ⟨_, rfl⟩
 rw [hR]
 rw [hR] at HN
 clear h hR
 generalize wordT L i = T at *
 generalize wordEnd L i = r at *
 have HNM := Lib.hid (fun (W : World) => rulesyn_named T W)
 cases hnm : namedP T with
 | true =>
   rw [hnm] at HN HNM
   go_enter Tryz.func99, Tryz.ntmps99
   go_wp2_with fail
   refine HW.out.mono ?_
   rintro e w1 ⟨rfl, hc1, hb1⟩
   have HC1 := Lib.hid hc1
   have HB1 := Lib.hid hb1
   clear hc1 hb1
   go_wp2_with fail
   refine (HNM.out _).mono ?_
   rintro e w2 ⟨rfl, rfl⟩
   go_wp2_with fail
   go_ret
   rw [HN.out]
   exact ⟨rfl, HC1.out, HB1.out⟩
 | false =>
   rw [hnm] at HN HNM
   go_enter Tryz.func99, Tryz.ntmps99
   go_wp2_with fail
   refine HW.out.mono ?_
   rintro e w1 ⟨rfl, hc1, hb1⟩
   have HC1 := Lib.hid hc1
   have HB1 := Lib.hid hb1
   clear hc1 hb1
   go_wp2_with fail
   refine (HNM.out _).mono ?_
   rintro e w2 ⟨rfl, rfl⟩
   go_wp2_with fail
   refine (syn_fail 7 i _).mono ?_
   rintro e w3 ⟨rfl, rfl⟩
   go_wp2_with fail
   rw [HN.out]
   exact ⟨rfl, rfl, HB1.out⟩
def varB (L : List Int) (i : Nat) : Bool := decide (pk L (spaceP L (wordEnd L (i + 1))) = 61)
set_option maxHeartbeats 1600000 in
theorem rd_variable (w : World) (C : Nat) (A : Option Addr) (n c : Nat) (L : List Int) (i : Nat) (h : CurAt w C A n c L i) (hi : i < n) :
 Calls Tryz.prog 98 #[.pointer (some ⟨C, 0, none⟩)] w fun e w' => e = .returned (.bool (varB L i)) ∧ Below w.heap.size w w' := by
 have hs := h.size
 have c0 := h.blk.cell 0
 have c1 := h.blk.cell 1
 have hw1 : IntKind.i64.wrap ((i : Int) + 1) = (i : Int) + 1 := wrap_small _ (by omega) (by omega)
 have HN := Lib.hid (show CurAt (w.alloc (.cells #[.slice A n c, .int .i64 ((i : Int) + 1)] 92)) w.heap.size A n c L (i + 1) from
  ⟨⟨_, by rw [show (((i + 1 : Nat)) : Int) = (i : Int) + 1 by omega]; exact Blk.new _ _ _⟩, (h.row.lift (X' := fun _ => True) (fun _ _ => trivial)).keep (Keeps.alloc _ (fun b _ hl => Nat.ne_of_lt hl)), h.size, hi, h.cap⟩)
 have HB := Lib.hid (show Below w.heap.size w (w.alloc (.cells #[.slice A n c, .int .i64 ((i : Int) + 1)] 92)) from (Below.refl _ _).alloc (Nat.le_refl _) _)
 have HV := Lib.hid (show varB L i = decide (pk L (spaceP L (wordEnd L (i + 1))) = 61) from rfl)
 clear h
 go_enter Tryz.func98, Tryz.ntmps98
 go_wp2_with fail
 refine (rd_word _ w.heap.size A n c L (i + 1) HN.out (by omega)).mono ?_
 rintro e w1 ⟨rfl, hc1, hb1⟩
 have HC1 := Lib.hid hc1
 have HB1 := Lib.hid (HB.out.trans (hb1.to HB.out.size (Nat.le_refl _)))
 clear hc1 hb1
 go_wp2_with fail
 refine (rd_space _ w.heap.size A n c L _ HC1.out).mono ?_
 rintro e w2 ⟨rfl, hc2, hb2⟩
 have HC2 := Lib.hid hc2
 have HB2 := Lib.hid (HB1.out.trans (hb2.to HB1.out.size (Nat.le_refl _)))
 clear hc2 hb2
 go_wp2_with fail
 refine (cur_peek2 _ w.heap.size A n c L _ HC2.out).mono ?_
 rintro e w3 ⟨rfl, hc3, hb3⟩
 have HB3 := Lib.hid (HB2.out.trans (hb3.to HB2.out.size (Nat.le_refl _)))
 clear hc3 hb3
 go_wp2_with fail
 go_ret
 rw [HV.out]
 exact ⟨ret_bool (by first | rfl | (rw [Bool.eq_iff_iff]; simp)), HB3.out⟩
end Go.Proofs.YthnhbcohfoodlaaGreatDoor
