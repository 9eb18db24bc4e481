/- RdPartA + RdPartB -/
import Derived.Test.YthnhbcohfoodlaaGreatDoorZt44
namespace Go.Proofs.YthnhbcohfoodlaaGreatDoor
open Go.RowKit
theorem pass_need {L : List Int} {i : Nat} {e : Int × Nat} (h : needP L (i + 1) 58 = .error e) : passR L i = .error e := by unfold passR; rw [h]
theorem pass_set_err {L : List Int} {i j a : Nat} {e : Int × Nat} (h : needP L (i + 1) 58 = .ok j) (ha : spaceP L j = a) (h91 : pk L a = 91) (hs : setP' L 20 a = .error e) : passR L i = .error e := by unfold passR; rw [h]; simp only; rw [ha, if_pos h91, hs]
theorem pass_set_ok {L : List Int} {i j a k : Nat} {s : Spans} (h : needP L (i + 1) 58 = .ok j) (ha : spaceP L j = a) (h91 : pk L a = 91) (hs : setP' L 20 a = .ok (s, k)) : passR L i = .ok (⟨3, noName, s, 0, noSide, noSide⟩, k) := by unfold passR; rw [h]; simp only; rw [ha, if_pos h91, hs]
theorem pass_name {L : List Int} {i j a : Nat} (h : needP L (i + 1) 58 = .ok j) (ha : spaceP L j = a) (h91 : pk L a ≠ 91) : passR L i = (if passB (wordT L a) = true then .ok (⟨4, wordT L a, [], 0, noSide, noSide⟩, wordEnd L a) else .error (7, a)) := by unfold passR; rw [h]; simp only; rw [ha, if_neg h91]
set_option maxHeartbeats 12800000 in
set_option maxRecDepth 100000 in
theorem rd_part_pass (w : World) (C : Nat) (A : Option Addr) (n c : Nat) (L : List Int) (i : Nat) (h : CurAt w C A n c L i) (hL : ValidL L) (hn : n ≤ 100000) (h58 : pk L i = 58) :
 Calls Tryz.prog 58 #[.pointer (some ⟨C, 0, none⟩)] w (PtPost w C A n c L (passR L i)) := by
 have hl := h.len
 have HL := Lib.hid hL
 have HPK := Lib.hid (fun (W : World) (m : Nat) (h : CurAt W C A n c L m) => cur_peek2 W C A n c L m h)
 have HSP := Lib.hid (fun (W : World) (m : Nat) (h : CurAt W C A n c L m) => rd_space W C A n c L m h)
 have HND := Lib.hid (fun (W : World) (m : Nat) (r : Int) (h : CurAt W C A n c L m) (hr : r ≠ -1) => cur_need W C A n c L m r h hr)
 have HST := Lib.hid (fun (W : World) (m : Nat) (h : CurAt W C A n c L m) => cur_set 20 1 W C A n c L m rfl (by decide) h hL hn)
 have HWD := Lib.hid (fun (W : World) (m : Nat) (h : CurAt W C A n c L m) (h0 : 0 < n) => rd_word W C A n c L m h h0)
 have hi := h.le
 have HF0 := Lib.hid (pt_start w C A n c L i h)
 obtain ⟨R, hR⟩ : ∃ R, passR L i = R := ⟨_, rfl⟩
 rw [hR]
 have HR := Lib.hid hR
 clear h hL hR
 go_enter Tryz.func58, Tryz.ntmps58
 go_wp2_with fail
 refine (HPK.out _ i HF0.out.cur.cur).mono ?_
 rintro e w1 ⟨rfl, hc1, hb1⟩
 have HF1 := Lib.hid (HF0.out.step hc1 hb1)
 clear hc1 hb1
 have hlt : i < n := by rw [← hl]; exact pk_lt (by omega)
 rw [h58]
 obtain ⟨d1, d2, d3, d4⟩ := HF1.out.cur.cur.step hlt
 have HF2 := Lib.hid (HF1.out.step d3 d4)
 have hwa : IntKind.i64.wrap ((i : Int) + 1) = (i : Int) + 1 := wrap_small _ (by omega) (by omega)
 have HN2 := Lib.hid (HND.out _ (i + 1) 58 HF2.out.cur.cur (by decide))
 clear d3 d4
 cases hnd : needP L (i + 1) 58 with
 | error e0 =>
   obtain ⟨y, p⟩ := e0
   have HRX := Lib.hid (show R = .error (y, p) from HR.out.symm.trans (pass_need hnd))
   rw [hnd] at HN2
   clear hnd
   go_wp2_with fail
   refine HN2.out.mono ?_
   rintro e w9 ⟨he, hb9⟩
   unfold thrown at he
   subst he
   have HB9 := Lib.hid (HF2.out.but.trans hb9)
   clear hb9
   go_wp2_with fail
   rw [HRX.out]
   exact ⟨rfl, rfl, HB9.out⟩
 | ok j =>
   have HNE := Lib.hid hnd
   rw [hnd] at HN2
   clear hnd
   obtain ⟨a, ha⟩ : ∃ a, spaceP L j = a := ⟨_, rfl⟩
   have HA := Lib.hid ha
   clear ha
   go_wp2_with fail
   refine HN2.out.mono ?_
   rintro e w3 ⟨rfl, hc3, hb3⟩
   have HF3 := Lib.hid (HF2.out.step hc3 hb3)
   clear hc3 hb3 d1 d2
   go_wp2_with fail
   refine (HSP.out _ j HF3.out.cur.cur).mono ?_
   rintro e w4 ⟨rfl, hc4, hb4⟩
   rw [HA.out] at hc4
   have HF4 := Lib.hid (HF3.out.step hc4 hb4)
   clear hc4 hb4
   go_wp2_with fail
   refine (HPK.out _ a HF4.out.cur.cur).mono ?_
   rintro e w5 ⟨rfl, hc5, hb5⟩
   have HF5 := Lib.hid (HF4.out.step hc5 hb5)
   clear hc5 hb5
   by_cases h91 : pk L a = 91
   ·have HSE := Lib.hid (HST.out _ a HF5.out.cur.cur)
    cases hst : setP' L 20 a with
    | error e0 =>
      obtain ⟨y, p⟩ := e0
      have HRX := Lib.hid (show R = .error (y, p) from HR.out.symm.trans (pass_set_err HNE.out HA.out h91 hst))
      rw [hst] at HSE
      rw [h91]
      clear hst h91
      go_wp2_with fail
      refine HSE.out.mono ?_
      rintro e w9 ⟨he, hb9⟩
      unfold thrown at he
      subst he
      have HB9 := Lib.hid (HF5.out.but.trans hb9)
      clear hb9
      go_wp2_with fail
      rw [HRX.out]
      exact ⟨rfl, rfl, HB9.out⟩
    | ok q =>
      obtain ⟨s, k⟩ := q
      have HRX := Lib.hid (show R = .ok (⟨3, noName, s, 0, noSide, noSide⟩, k) from HR.out.symm.trans (pass_set_ok HNE.out HA.out h91 hst))
      have hss := (setP_ok HL.out.ok 20 _ _ _ hst).2.size
      rw [hst] at HSE
      rw [h91]
      clear hst h91
      go_wp2_with fail
      refine HSE.out.mono ?_
      rintro e w6 ⟨⟨B, m, d, rfl, hr, hd⟩, hc6, hb6⟩
      have hf6 := HF5.out.step hc6 hb6
      have hm : m ≤ maxLen := by have h1 := hr.1; rw [spanCells_length] at h1; unfold maxLen; omega
      have HRD := Lib.hid (show RdX w6 (PtX w C) 2 B m (spanCells s) from hr.lift (fun b (h : w5.heap.size ≤ b) => ⟨by have := HF5.out.res.lt; omega, by have := HF5.out.cur.lt; have := HF5.out.but.1; omega⟩))
      have HF6 := Lib.hid hf6
      have HPX := Lib.hid (show PartX w6 (PtX w C) ⟨3, noName, s, 0, noSide, noSide⟩ [.int .i64 3, .string ⟨#[]⟩, .slice B m d, .int .i64 0, .bool false, .bool false, .slice none 0 0, .slice none 0 0, .slice none 0 0, .int .i64 0, .bool false, .bool false, .slice none 0 0, .slice none 0 0, .slice none 0 0, .int .i64 0] from ⟨B, m, d, [.bool false, .bool false, .slice none 0 0, .slice none 0 0, .slice none 0 0, .int .i64 0], [.bool false, .bool false, .slice none 0 0, .slice none 0 0, .slice none 0 0, .int .i64 0], rfl, HRD.out, hm, zero_side, zero_side, show i64R 3 from ⟨by decide, by decide⟩, show i64R 0 from ⟨by decide, by decide⟩, Nat.zero_le _⟩)
      clear hr hd hc6 hb6 hf6
      obtain ⟨hone, e1, e2, hlc6, e4⟩ := pt_done HF6.out HPX.out
      have HE1 := Lib.hid e1
      have HE2 := Lib.hid e2
      have HE4 := Lib.hid e4
      have HON := Lib.hid hone
      have HLC := Lib.hid hlc6
      have HRB := Lib.hid (PtFr.res HF6.out)
      clear e1 e2 e4 hlc6 hone
      go_wp2_with (refine wpList_store_row (c := #[.int .i64 0, .string ⟨#[]⟩, .slice none 0 0, .int .i64 0, .bool false, .bool false, .slice none 0 0, .slice none 0 0, .slice none 0 0, .int .i64 0, .bool false, .bool false, .slice none 0 0, .slice none 0 0, .slice none 0 0, .int .i64 0]) (vs := #[.int .i64 3, .string ⟨#[]⟩, .slice B m d, .int .i64 0, .bool false, .bool false, .slice none 0 0, .slice none 0 0, .slice none 0 0, .int .i64 0, .bool false, .bool false, .slice none 0 0, .slice none 0 0, .slice none 0 0, .int .i64 0]) rfl rfl infoPt rfl HON.out rfl rfl HRB.out ?_)
      (try simp only [Act.put])
      refine bodyPost_ret (v := .agg #[.int .i64 3, .string ⟨#[]⟩, .slice B m d, .int .i64 0, .bool false, .bool false, .slice none 0 0, .slice none 0 0, .slice none 0 0, .int .i64 0, .bool false, .bool false, .slice none 0 0, .slice none 0 0, .slice none 0 0, .int .i64 0]) (results_row Tryz.results58 rfl structPt infoPt HLC.out) rfl ?_
      rw [HRX.out]
      exact ⟨⟨_, rfl, HE4.out⟩, HE1.out, HE2.out⟩
   ·have q91 : (pk L a == 91) = false := by rw [beq_eq_false_iff_ne]; exact h91
    have c1 := HF5.out.cur.cur.blk.cell 1
    obtain ⟨T, hT⟩ : ∃ T, wordT L a = T := ⟨_, rfl⟩
    have HT := Lib.hid hT
    have HP2 := Lib.hid (show R = (if passB T = true then .ok (⟨4, T, [], 0, noSide, noSide⟩, wordEnd L a) else .error (7, a)) by rw [← HR.out, pass_name HNE.out HA.out h91, hT])
    clear hT
    go_wp2_with fail
    refine (HWD.out _ a HF5.out.cur.cur (by omega)).mono ?_
    rintro e w6 ⟨rfl, hc6, hb6⟩
    rw [HT.out]
    have HF6 := Lib.hid (HF5.out.step hc6 hb6)
    have hts : T.size ≤ maxLen := by
     rw [← HT.out]
     have := wordT_size L a
     have := HF6.out.cur.cur.le
     unfold maxLen
     omega
    clear hc6 hb6 c1
    go_upto_region 9 with fail
    have hP := HF6.out.res.lt
    have hblk := Blk.new w6 98 #[.int .i64 4, .string T, .slice none 0 0, .int .i64 0, .bool false, .bool false, .slice none 0 0, .slice none 0 0, .slice none 0 0, .int .i64 0, .bool false, .bool false, .slice none 0 0, .slice none 0 0, .slice none 0 0, .int .i64 0]
    have hbw : Below w6.heap.size w6 (w6.alloc (.cells #[.int .i64 4, .string T, .slice none 0 0, .int .i64 0, .bool false, .bool false, .slice none 0 0, .slice none 0 0, .slice none 0 0, .int .i64 0, .bool false, .bool false, .slice none 0 0, .slice none 0 0, .slice none 0 0, .int .i64 0] 98)) := (Below.refl _ _).alloc (Nat.le_refl _) _
    have hf7 := HF6.out.below hbw
    have hz7 : w6.heap.size < (w6.alloc (.cells #[.int .i64 4, .string T, .slice none 0 0, .int .i64 0, .bool false, .bool false, .slice none 0 0, .slice none 0 0, .slice none 0 0, .int .i64 0, .bool false, .bool false, .slice none 0 0, .slice none 0 0, .slice none 0 0, .int .i64 0] 98)).heap.size := by simp
    generalize (w6.alloc (.cells #[.int .i64 4, .string T, .slice none 0 0, .int .i64 0, .bool false, .bool false, .slice none 0 0, .slice none 0 0, .slice none 0 0, .int .i64 0, .bool false, .bool false, .slice none 0 0, .slice none 0 0, .slice none 0 0, .int .i64 0] 98)) = w7 at *
    have HF7 := Lib.hid hf7
    have HBK := Lib.hid hblk
    have c1 : w7.cell? ⟨w6.heap.size, 1, none⟩ = some (.string T) := hblk.cell 1
    clear hbw hf7 hblk
    obtain ⟨B9, hB9⟩ : ∃ B9, passB T = B9 := ⟨_, rfl⟩
    have HB9 := Lib.hid hB9
    rw [hB9] at HP2
    clear hB9
    go_cut [51] (fun v wx => v = .bool (!B9) ∧ Below w7.heap.size w7 wx)
    case first =>
     go_region_with (first | (go_at_call 97; refine (rulesyn_passes _).mono ?_; rintro e w' ⟨rfl, rfl⟩) | (go_at_call 96; refine (pass_has _ T _ HB9.out _ (blk_drew (Blk.new _ _ _))).mono ?_; rintro e w' ⟨rfl, rfl⟩))
     all_goals
      go_wp2_with fail
      go_meet
      exact ⟨rfl, below_drewN ((Below.refl _ _).alloc (Nat.le_refl _) _) _⟩
    case rest =>
     obtain ⟨rfl, hbc⟩ := hcut
     have HF8 := Lib.hid (HF7.out.below hbc)
     have hbk8 := HBK.out.below hbc hz7
     have HBK8 := Lib.hid hbk8
     cases B9 with
     | false =>
       have HRX := Lib.hid (show R = .error (7, a) from HP2.out)
       clear hbc c1 hbk8
       go_wp2_with fail
       refine (syn_fail 7 a _).mono ?_
       rintro e w9 ⟨rfl, rfl⟩
       go_wp2_with fail
       rw [HRX.out]
       exact ⟨rfl, rfl, HF8.out.but⟩
     | true =>
       have HRX := Lib.hid (show R = .ok (⟨4, T, [], 0, noSide, noSide⟩, wordEnd L a) from HP2.out)
       have hf8 := HF8.out
       have HPX := Lib.hid (show PartX wc (PtX w C) ⟨4, T, [], 0, noSide, noSide⟩ [.int .i64 4, .string T, .slice none 0 0, .int .i64 0, .bool false, .bool false, .slice none 0 0, .slice none 0 0, .slice none 0 0, .int .i64 0, .bool false, .bool false, .slice none 0 0, .slice none 0 0, .slice none 0 0, .int .i64 0] from ⟨none, 0, 0, [.bool false, .bool false, .slice none 0 0, .slice none 0 0, .slice none 0 0, .int .i64 0], [.bool false, .bool false, .slice none 0 0, .slice none 0 0, .slice none 0 0, .int .i64 0], rfl, RdX.nil 2, Nat.zero_le _, zero_side, zero_side, show i64R 4 from ⟨by decide, by decide⟩, show i64R 0 from ⟨by decide, by decide⟩, hts⟩)
       clear hbc hf8 c1
       obtain ⟨hone, e1, e2, hlc6, e4⟩ := pt_done HF8.out HPX.out
       have HE1 := Lib.hid e1
       have HE2 := Lib.hid e2
       have HE4 := Lib.hid e4
       have HON := Lib.hid hone
       have HLC := Lib.hid hlc6
       have HRB := Lib.hid (PtFr.res HF8.out)
       have HLB := Lib.hid hbk8
       clear e1 e2 e4 hlc6 hone
       go_wp2_with (first | (refine wpList_load_row (cs := #[.int .i64 4, .string T, .slice none 0 0, .int .i64 0, .bool false, .bool false, .slice none 0 0, .slice none 0 0, .slice none 0 0, .int .i64 0, .bool false, .bool false, .slice none 0 0, .slice none 0 0, .slice none 0 0, .int .i64 0]) rfl rfl structPt infoPt rfl HLB.out ?_) | (refine wpList_store_row (c := #[.int .i64 0, .string ⟨#[]⟩, .slice none 0 0, .int .i64 0, .bool false, .bool false, .slice none 0 0, .slice none 0 0, .slice none 0 0, .int .i64 0, .bool false, .bool false, .slice none 0 0, .slice none 0 0, .slice none 0 0, .int .i64 0]) (vs := #[.int .i64 4, .string T, .slice none 0 0, .int .i64 0, .bool false, .bool false, .slice none 0 0, .slice none 0 0, .slice none 0 0, .int .i64 0, .bool false, .bool false, .slice none 0 0, .slice none 0 0, .slice none 0 0, .int .i64 0]) rfl rfl infoPt rfl HON.out rfl rfl HRB.out ?_))
       (try simp only [Act.put])
       refine bodyPost_ret (v := .agg #[.int .i64 4, .string T, .slice none 0 0, .int .i64 0, .bool false, .bool false, .slice none 0 0, .slice none 0 0, .slice none 0 0, .int .i64 0, .bool false, .bool false, .slice none 0 0, .slice none 0 0, .slice none 0 0, .int .i64 0]) (results_row Tryz.results58 rfl structPt infoPt HLC.out) rfl ?_
       rw [HRX.out]
       exact ⟨⟨_, rfl, HE4.out⟩, HE1.out, HE2.out⟩
end Go.Proofs.YthnhbcohfoodlaaGreatDoor

namespace Go.Proofs.YthnhbcohfoodlaaGreatDoor
open Go.RowKit
theorem var_name_err {L : List Int} {i : Nat} {e : Int × Nat} (h : nameP L (i + 1) = .error e) : varR L i = .error e := by unfold varR; rw [h]
theorem var_need_err {L : List Int} {i j : Nat} {s : ByteArray} {e : Int × Nat} (h : nameP L (i + 1) = .ok (s, j)) (h2 : needP L (spaceP L j) 61 = .error e) : varR L i = .error e := by unfold varR; rw [h]; simp only; rw [h2]
theorem var_set_err {L : List Int} {i j k : Nat} {s : ByteArray} {e : Int × Nat} (h : nameP L (i + 1) = .ok (s, j)) (h2 : needP L (spaceP L j) 61 = .ok k) (h3 : setP' L 20 (spaceP L k) = .error e) : varR L i = .error e := by unfold varR; rw [h]; simp only; rw [h2]; simp only; rw [h3]
theorem var_ok {L : List Int} {i j k m : Nat} {s : ByteArray} {t : Spans} (h : nameP L (i + 1) = .ok (s, j)) (h2 : needP L (spaceP L j) 61 = .ok k) (h3 : setP' L 20 (spaceP L k) = .ok (t, m)) : varR L i = .ok (⟨1, s, t, 0, noSide, noSide⟩, m) := by unfold varR; rw [h]; simp only; rw [h2]; simp only; rw [h3]
set_option maxHeartbeats 12800000 in
set_option maxRecDepth 100000 in
theorem rd_part_var (w : World) (C : Nat) (A : Option Addr) (n c : Nat) (L : List Int) (i : Nat) (h : CurAt w C A n c L i) (hL : ValidL L) (hn : n ≤ 100000) (h36 : pk L i = 36) (hv : varB L i = true) :
 Calls Tryz.prog 58 #[.pointer (some ⟨C, 0, none⟩)] w (PtPost w C A n c L (varR L i)) := by
 have hl := h.len
 have HL := Lib.hid hL
 have HPK := Lib.hid (fun (W : World) (m : Nat) (h : CurAt W C A n c L m) => cur_peek2 W C A n c L m h)
 have HSP := Lib.hid (fun (W : World) (m : Nat) (h : CurAt W C A n c L m) => rd_space W C A n c L m h)
 have HND := Lib.hid (fun (W : World) (m : Nat) (r : Int) (h : CurAt W C A n c L m) (hr : r ≠ -1) => cur_need W C A n c L m r h hr)
 have HST := Lib.hid (fun (W : World) (m : Nat) (h : CurAt W C A n c L m) => cur_set 20 1 W C A n c L m rfl (by decide) h hL hn)
 have HWD := Lib.hid (fun (W : World) (m : Nat) (h : CurAt W C A n c L m) (h0 : 0 < n) => rd_word W C A n c L m h h0)
 have hi := h.le
 have HF0 := Lib.hid (pt_start w C A n c L i h)
 obtain ⟨R, hR⟩ : ∃ R, varR L i = R := ⟨_, rfl⟩
 rw [hR]
 have HR := Lib.hid hR
 clear h hL hR
 go_enter Tryz.func58, Tryz.ntmps58
 go_wp2_with fail
 refine (HPK.out _ i HF0.out.cur.cur).mono ?_
 rintro e w1 ⟨rfl, hc1, hb1⟩
 have HF1 := Lib.hid (HF0.out.step hc1 hb1)
 clear hc1 hb1
 have hlt : i < n := by rw [← hl]; exact pk_lt (by omega)
 have HVR := Lib.hid (fun (W : World) (h : CurAt W C A n c L i) => show Calls Tryz.prog 98 #[.pointer (some ⟨C, 0, none⟩)] W fun e w' => e = .returned (.bool true) ∧ Below W.heap.size W w' by have := rd_variable W C A n c L i h hlt; rwa [hv] at this)
 rw [h36]
 go_upto_if 63 with (first
  | (go_at_call 57; refine (HPK.out _ i HF1.out.cur.cur).mono ?_; rintro e w2 ⟨rfl, hc2, hb2⟩; rw [h36])
  | (go_at_call 98; refine (HVR.out _ (by assumption)).mono ?_; rintro e w3 ⟨rfl, hb3⟩))
 have HF3 := Lib.hid ((HF1.out.step hc2 hb2).below hb3)
 clear hc2 hb2 hb3
 obtain ⟨d1, d2, d3, d4⟩ := HF3.out.cur.cur.step hlt
 have HF4 := Lib.hid (HF3.out.step d3 d4)
 have hwa : IntKind.i64.wrap ((i : Int) + 1) = (i : Int) + 1 := wrap_small _ (by omega) (by omega)
 have HNM := Lib.hid (rd_name _ C A n c L (i + 1) HF4.out.cur.cur (by omega))
 clear d3 d4
 cases hnm : nameP L (i + 1) with
 | error e0 =>
   obtain ⟨y, p⟩ := e0
   have HRX := Lib.hid (show R = .error (y, p) from HR.out.symm.trans (var_name_err hnm))
   rw [hnm] at HNM
   clear hnm
   go_wp2_with fail
   refine HNM.out.mono ?_
   rintro e w9 ⟨he, hb9⟩
   unfold thrown at he
   subst he
   have HB9 := Lib.hid (HF4.out.but.trans hb9)
   clear hb9
   go_wp2_with fail
   rw [HRX.out]
   exact ⟨rfl, rfl, HB9.out⟩
 | ok q =>
   obtain ⟨T, j⟩ := q
   have HNE := Lib.hid hnm
   have hts : T.size ≤ maxLen := by
    have h1 := (nameP_ok hnm).2.2.1
    have h2 := wordT_size L (i + 1)
    have h3 := HF4.out.cur.cur.le
    rw [← h1] at h2
    unfold maxLen
    omega
   rw [hnm] at HNM
   clear hnm
   obtain ⟨a, ha⟩ : ∃ a, spaceP L j = a := ⟨_, rfl⟩
   have HA := Lib.hid ha
   clear ha
   go_wp2_with fail
   refine HNM.out.mono ?_
   rintro e w5 ⟨rfl, hc5, hb5⟩
   have HF5 := Lib.hid (HF4.out.step hc5 hb5)
   clear hc5 hb5 d1 d2
   have hP := HF5.out.res.lt
   have hPC : w5.heap.size ≠ C := by have := HF5.out.cur.lt; have := HF5.out.but.1; omega
   have hblk := Blk.new w5 98 #[.int .i64 1, .string T, .slice none 0 0, .int .i64 0, .bool false, .bool false, .slice none 0 0, .slice none 0 0, .slice none 0 0, .int .i64 0, .bool false, .bool false, .slice none 0 0, .slice none 0 0, .slice none 0 0, .int .i64 0]
   have hbw : Below w5.heap.size w5 (w5.alloc (.cells #[.int .i64 1, .string T, .slice none 0 0, .int .i64 0, .bool false, .bool false, .slice none 0 0, .slice none 0 0, .slice none 0 0, .int .i64 0, .bool false, .bool false, .slice none 0 0, .slice none 0 0, .slice none 0 0, .int .i64 0] 98)) := (Below.refl _ _).alloc (Nat.le_refl _) _
   have HF6 := Lib.hid (HF5.out.below hbw)
   have HBK := Lib.hid hblk
   clear hbw hblk
   go_wp2_with fail
   refine (HSP.out _ j HF6.out.cur.cur).mono ?_
   rintro e w7 ⟨rfl, hc7, hb7⟩
   rw [HA.out] at hc7
   have HF7 := Lib.hid (HF6.out.step hc7 hb7)
   have HBK7 := Lib.hid (blk_step HBK.out hb7 hPC)
   clear hc7 hb7
   have HN7 := Lib.hid (HND.out _ a 61 HF7.out.cur.cur (by decide))
   cases hnd : needP L a 61 with
   | error e0 =>
     obtain ⟨y, p⟩ := e0
     have HRX := Lib.hid (show R = .error (y, p) from HR.out.symm.trans (var_need_err HNE.out (by rw [HA.out]; exact hnd)))
     rw [hnd] at HN7
     clear hnd
     go_wp2_with fail
     refine HN7.out.mono ?_
     rintro e w9 ⟨he, hb9⟩
     unfold thrown at he
     subst he
     have HB9 := Lib.hid (HF7.out.but.trans hb9)
     clear hb9
     go_wp2_with fail
     rw [HRX.out]
     exact ⟨rfl, rfl, HB9.out⟩
   | ok k =>
     have HND1 := Lib.hid (show needP L (spaceP L j) 61 = .ok k by rw [HA.out]; exact hnd)
     rw [hnd] at HN7
     clear hnd
     obtain ⟨b, hb⟩ : ∃ b, spaceP L k = b := ⟨_, rfl⟩
     have HB := Lib.hid hb
     clear hb
     go_wp2_with fail
     refine HN7.out.mono ?_
     rintro e w8 ⟨rfl, hc8, hb8⟩
     have HF8 := Lib.hid (HF7.out.step hc8 hb8)
     have HBK8 := Lib.hid (blk_step HBK7.out hb8 hPC)
     clear hc8 hb8
     go_wp2_with fail
     refine (HSP.out _ k HF8.out.cur.cur).mono ?_
     rintro e w9 ⟨rfl, hc9, hb9⟩
     rw [HB.out] at hc9
     have HF9 := Lib.hid (HF8.out.step hc9 hb9)
     have HBK9 := Lib.hid (blk_step HBK8.out hb9 hPC)
     clear hc9 hb9
     have HSE := Lib.hid (HST.out _ b HF9.out.cur.cur)
     cases hst : setP' L 20 b with
     | error e0 =>
       obtain ⟨y, p⟩ := e0
       have HRX := Lib.hid (show R = .error (y, p) from HR.out.symm.trans (var_set_err HNE.out HND1.out (by rw [HB.out]; exact hst)))
       rw [hst] at HSE
       clear hst
       go_wp2_with fail
       refine HSE.out.mono ?_
       rintro e wz ⟨he, hbz⟩
       unfold thrown at he
       subst he
       have HBZ := Lib.hid (HF9.out.but.trans hbz)
       clear hbz
       go_wp2_with fail
       rw [HRX.out]
       exact ⟨rfl, rfl, HBZ.out⟩
     | ok q =>
       obtain ⟨s, m0⟩ := q
       have HRX := Lib.hid (show R = .ok (⟨1, T, s, 0, noSide, noSide⟩, m0) from HR.out.symm.trans (var_ok HNE.out HND1.out (by rw [HB.out]; exact hst)))
       have hss := (setP_ok HL.out.ok 20 _ _ _ hst).2.size
       rw [hst] at HSE
       clear hst
       go_wp2_with fail
       refine HSE.out.mono ?_
       rintro e w10 ⟨⟨B, m, d, rfl, hr, hd⟩, hc10, hb10⟩
       have hf10 := HF9.out.step hc10 hb10
       have hk10 := blk_step HBK9.out hb10 hPC
       have hm : m ≤ maxLen := by have h1 := hr.1; rw [spanCells_length] at h1; unfold maxLen; omega
       have hPlt := HBK9.out.lt
       have x2 := hk10.cell 2
       have z2 := hk10.frozen 2
       have HF11 := Lib.hid (hf10.put hP 2 (.slice B m d))
       have HBK11 := Lib.hid (show Blk (w10.setCell ⟨w5.heap.size, 2, none⟩ (.slice B m d)) w5.heap.size 98 #[.int .i64 1, .string T, .slice B m d, .int .i64 0, .bool false, .bool false, .slice none 0 0, .slice none 0 0, .slice none 0 0, .int .i64 0, .bool false, .bool false, .slice none 0 0, .slice none 0 0, .slice none 0 0, .int .i64 0] from hk10.put 2 _)
       have hrd : RdX w10 (fun b => PtX w C b ∧ b ≠ w5.heap.size) 2 B m (spanCells s) := hr.lift (fun b (h : w9.heap.size ≤ b) => ⟨⟨by have := HF9.out.res.lt; omega, by have := HF9.out.cur.lt; have := HF9.out.but.1; omega⟩, by omega⟩)
       have HRD := Lib.hid (hrd.keep (Keeps.setCell (p := ⟨w5.heap.size, 2, none⟩) (X' := PtX w C) (.slice B m d) (fun b hb => hb.2) (fun b hb _ => hb.1)))
       have HPX := Lib.hid (show PartX (w10.setCell ⟨w5.heap.size, 2, none⟩ (.slice B m d)) (PtX w C) ⟨1, T, s, 0, noSide, noSide⟩ [.int .i64 1, .string T, .slice B m d, .int .i64 0, .bool false, .bool false, .slice none 0 0, .slice none 0 0, .slice none 0 0, .int .i64 0, .bool false, .bool false, .slice none 0 0, .slice none 0 0, .slice none 0 0, .int .i64 0] from ⟨B, m, d, [.bool false, .bool false, .slice none 0 0, .slice none 0 0, .slice none 0 0, .int .i64 0], [.bool false, .bool false, .slice none 0 0, .slice none 0 0, .slice none 0 0, .int .i64 0], rfl, HRD.out, hm, zero_side, zero_side, show i64R 1 from ⟨by decide, by decide⟩, show i64R 0 from ⟨by decide, by decide⟩, hts⟩)
       clear hr hd hc10 hb10 hf10 hk10 hrd
       go_upto_region 19 with fail
       have hHF := HF11.out
       have hHB := HBK11.out
       have hHP := HPX.out
       clear HF11 HBK11 HPX HRD x2 z2
       generalize w10.setCell ⟨w5.heap.size, 2, none⟩ (.slice B m d) = w11 at *
       obtain ⟨hone, e1, e2, hlc6, e4⟩ := pt_done hHF hHP
       have HE1 := Lib.hid e1
       have HE2 := Lib.hid e2
       have HE4 := Lib.hid e4
       have HON := Lib.hid hone
       have HLC := Lib.hid hlc6
       have HRB := Lib.hid (PtFr.res hHF)
       have HLB := Lib.hid hHB
       clear e1 e2 e4 hlc6 hone
       go_wp2_with (first | (refine wpList_load_row (cs := #[.int .i64 1, .string T, .slice B m d, .int .i64 0, .bool false, .bool false, .slice none 0 0, .slice none 0 0, .slice none 0 0, .int .i64 0, .bool false, .bool false, .slice none 0 0, .slice none 0 0, .slice none 0 0, .int .i64 0]) rfl rfl structPt infoPt rfl HLB.out ?_) | (refine wpList_store_row (c := #[.int .i64 0, .string ⟨#[]⟩, .slice none 0 0, .int .i64 0, .bool false, .bool false, .slice none 0 0, .slice none 0 0, .slice none 0 0, .int .i64 0, .bool false, .bool false, .slice none 0 0, .slice none 0 0, .slice none 0 0, .int .i64 0]) (vs := #[.int .i64 1, .string T, .slice B m d, .int .i64 0, .bool false, .bool false, .slice none 0 0, .slice none 0 0, .slice none 0 0, .int .i64 0, .bool false, .bool false, .slice none 0 0, .slice none 0 0, .slice none 0 0, .int .i64 0]) rfl rfl infoPt rfl HON.out rfl rfl HRB.out ?_))
       (try simp only [Act.put])
       refine bodyPost_ret (v := .agg #[.int .i64 1, .string T, .slice B m d, .int .i64 0, .bool false, .bool false, .slice none 0 0, .slice none 0 0, .slice none 0 0, .int .i64 0, .bool false, .bool false, .slice none 0 0, .slice none 0 0, .slice none 0 0, .int .i64 0]) (results_row Tryz.results58 rfl structPt infoPt HLC.out) rfl ?_
       rw [HRX.out]
       exact ⟨⟨_, rfl, HE4.out⟩, HE1.out, HE2.out⟩
end Go.Proofs.YthnhbcohfoodlaaGreatDoor
