/- RdSide + SynRead + RulesNum -/
import Derived.Test.YthnhbcohfoodlaaGreatDoorZt42
import Derived.Test.YthnhbcohfoodlaaGreatDoorZt41
import Derived.Test.YthnhbcohfoodlaaGreatDoorZt35
import Derived.Test.YthnhbcohfoodlaaGreatDoorZt6
import Derived.Test.YthnhbcohfoodlaaGreatDoorZt16
namespace Go.Proofs.YthnhbcohfoodlaaGreatDoor
open Go.RowKit
theorem side_head_err {L : List Int} {i a0 a1 : Nat} {e : Int × Nat} (h0 : spaceP L i = a0) (h1 : a1 = if pk L a0 = 94 then a0 + 1 else a0) (h : headR L (decide (pk L a0 = 94)) a1 = .error e) : sideR L i = .error e := by unfold sideR; rw [h0, ← h1, h]
theorem side_tail_err {L : List Int} {i a0 a1 j : Nat} {b s : List ItemD} {c : Int} {e : Int × Nat} (h0 : spaceP L i = a0) (h1 : a1 = if pk L a0 = 94 then a0 + 1 else a0) (h : headR L (decide (pk L a0 = 94)) a1 = .ok ((b, s, c), j)) (ht : tailR L j = .error e) : sideR L i = .error e := by unfold sideR; rw [h0, ← h1, h]; simp only; rw [ht]
theorem side_ok_is {L : List Int} {i a0 a1 j k : Nat} {b s a : List ItemD} {c : Int} {fin : Bool} (h0 : spaceP L i = a0) (h1 : a1 = if pk L a0 = 94 then a0 + 1 else a0) (h : headR L (decide (pk L a0 = 94)) a1 = .ok ((b, s, c), j)) (ht : tailR L j = .ok ((a, fin), k)) : sideR L i = .ok (⟨decide (pk L a0 = 94), fin, b, s, a, c⟩, spaceP L k) := by unfold sideR; rw [h0, ← h1, h]; simp only; rw [ht]
theorem head_many {L : List Int} {st : Bool} {a j : Nat} {l : List ItemD} {c : Int} (h : itemsR L a = .ok ((l, c), j)) (h1 : pk L j = 123) (h2 : 0 ≤ c) : headR L st a = .error (8, a) := by unfold headR; rw [h]; simp only; rw [if_pos h1, if_pos h2]
theorem head_inner {L : List Int} {st : Bool} {a j : Nat} {l : List ItemD} {c : Int} {e : Int × Nat} (h : itemsR L a = .ok ((l, c), j)) (h1 : pk L j = 123) (h2 : ¬ 0 ≤ c) (h3 : itemsR L (j + 1) = .error e) : headR L st a = .error e := by unfold headR; rw [h]; simp only; rw [if_pos h1, if_neg h2, h3]
theorem head_two {L : List Int} {st : Bool} {a j k : Nat} {l l2 : List ItemD} {c c2 : Int} (h : itemsR L a = .ok ((l, c), j)) (h1 : pk L j = 123) (h2 : ¬ 0 ≤ c) (h3 : itemsR L (j + 1) = .ok ((l2, c2), k)) : headR L st a = .ok ((l, l2, c2), k) := by unfold headR; rw [h]; simp only; rw [if_pos h1, if_neg h2, h3]
theorem head_need {L : List Int} {a j : Nat} {l : List ItemD} {c : Int} (h : itemsR L a = .ok ((l, c), j)) (h1 : pk L j ≠ 123) : headR L true a = .error (2, j) := by unfold headR; rw [h]; simp only; rw [if_neg h1]; rfl
theorem head_one {L : List Int} {a j : Nat} {l : List ItemD} {c : Int} (h : itemsR L a = .ok ((l, c), j)) (h1 : pk L j ≠ 123) : headR L false a = .ok (([], l, c), j) := by unfold headR; rw [h]; simp only; rw [if_neg h1]; rfl
theorem tail_inner {L : List Int} {j : Nat} {e : Int × Nat} (h1 : pk L j = 125) (h : itemsR L (j + 1) = .error e) : tailR L j = .error e := by unfold tailR; rw [if_pos h1, h]
theorem tail_rest {L : List Int} {j k : Nat} {l : List ItemD} {c : Int} (h1 : pk L j = 125) (h : itemsR L (j + 1) = .ok ((l, c), k)) : tailR L j = (if 0 ≤ c then .error (8, j + 1) else if pk L k = 36 then .ok ((l, true), k + 1) else .ok ((l, false), k)) := by unfold tailR; rw [if_pos h1, h]
theorem tail_no {L : List Int} {j : Nat} (h1 : pk L j ≠ 125) : tailR L j = .ok (([], false), j) := by unfold tailR; rw [if_neg h1]
theorem sd_start (w : World) (C : Nat) (A : Option Addr) (n c : Nat) (L : List Int) (i : Nat) (h : CurAt w C A n c L i) : SdFr w C A n c L ((w.alloc (.cells #[.bool false, .bool false, .slice none 0 0, .slice none 0 0, .slice none 0 0, .int .i64 0] 96)).alloc (.cells #[.bool false, .bool false, .slice none 0 0, .slice none 0 0, .slice none 0 0, .int .i64 (-1)] 96)) i #[.bool false, .bool false, .slice none 0 0, .slice none 0 0, .slice none 0 0, .int .i64 (-1)] := by
 have hb : Below w.heap.size w ((w.alloc (.cells #[.bool false, .bool false, .slice none 0 0, .slice none 0 0, .slice none 0 0, .int .i64 0] 96)).alloc (.cells #[.bool false, .bool false, .slice none 0 0, .slice none 0 0, .slice none 0 0, .int .i64 (-1)] 96)) := ((Below.refl _ _).alloc (Nat.le_refl _) _).alloc (by simp) _
 refine ⟨(CurLo.start h).below hb, But.below C hb, ?_, (Blk.new w _ _).alloc _⟩
 have := Blk.new (w.alloc (.cells #[.bool false, .bool false, .slice none 0 0, .slice none 0 0, .slice none 0 0, .int .i64 0] 96)) 96 #[.bool false, .bool false, .slice none 0 0, .slice none 0 0, .slice none 0 0, .int .i64 (-1)]
 simpa using this
theorem sd_done {w wr : World} {C : Nat} {A : Option Addr} {n c : Nat} {L : List Int} {j : Nat} {cs : Array Value} (h : SdFr w C A n c L wr j cs) (v0 v1 v2 v3 v4 v5 : Value) :
 CurAt ((((((wr.setCell ⟨w.heap.size, 0, none⟩ v0).setCell ⟨w.heap.size, 1, none⟩ v1).setCell ⟨w.heap.size, 2, none⟩ v2).setCell ⟨w.heap.size, 3, none⟩ v3).setCell ⟨w.heap.size, 4, none⟩ v4).setCell ⟨w.heap.size, 5, none⟩ v5) C A n c L j ∧
 But w C ((((((wr.setCell ⟨w.heap.size, 0, none⟩ v0).setCell ⟨w.heap.size, 1, none⟩ v1).setCell ⟨w.heap.size, 2, none⟩ v2).setCell ⟨w.heap.size, 3, none⟩ v3).setCell ⟨w.heap.size, 4, none⟩ v4).setCell ⟨w.heap.size, 5, none⟩ v5) ∧
 Blk ((((((wr.setCell ⟨w.heap.size, 0, none⟩ v0).setCell ⟨w.heap.size, 1, none⟩ v1).setCell ⟨w.heap.size, 2, none⟩ v2).setCell ⟨w.heap.size, 3, none⟩ v3).setCell ⟨w.heap.size, 4, none⟩ v4).setCell ⟨w.heap.size, 5, none⟩ v5) w.heap.size 96 #[v0, v1, v2, v3, v4, v5] ∧
 Keeps wr (fun b => w.heap.size + 2 ≤ b ∧ b ≠ C) ((((((wr.setCell ⟨w.heap.size, 0, none⟩ v0).setCell ⟨w.heap.size, 1, none⟩ v1).setCell ⟨w.heap.size, 2, none⟩ v2).setCell ⟨w.heap.size, 3, none⟩ v3).setCell ⟨w.heap.size, 4, none⟩ v4).setCell ⟨w.heap.size, 5, none⟩ v5) (fun b => w.heap.size + 2 ≤ b ∧ b ≠ C) := by
 have hz := h.but.1
 have one : ∀ (W : World) (k : Nat) (v : Value), Below w.heap.size wr W → w.heap.size ≤ W.heap.size → Below w.heap.size wr (W.setCell ⟨w.heap.size, k, none⟩ v) := fun W k v hb hs => hb.trans ((But.set W w.heap.size k v).to hs (Nat.le_refl _))
 have kp : ∀ (W : World) (k : Nat) (v : Value), Keeps W (fun b => w.heap.size + 2 ≤ b ∧ b ≠ C) (W.setCell ⟨w.heap.size, k, none⟩ v) (fun b => w.heap.size + 2 ≤ b ∧ b ≠ C) := fun W k v => Keeps.setCell v (fun b hb => by have := hb.1; show b ≠ w.heap.size; omega) (fun _ h _ => h)
 have b0 := one wr 0 v0 (Below.refl _ _) hz
 have b1 := one _ 1 v1 b0 (by simpa using hz)
 have b2 := one _ 2 v2 b1 (by simpa using hz)
 have b3 := one _ 3 v3 b2 (by simpa using hz)
 have b4 := one _ 4 v4 b3 (by simpa using hz)
 have b5 := one _ 5 v5 b4 (by simpa using hz)
 have r0 := h.res.put 0 v0
 have r1 := r0.put 1 v1
 have r2 := r1.put 2 v2
 have r3 := r2.put 3 v3
 have r4 := r3.put 4 v4
 have r5 := r4.put 5 v5
 exact ⟨(h.cur.below b5).cur, but_below h.but b5, r5, (((((kp _ 0 v0).trans (kp _ 1 v1)).trans (kp _ 2 v2)).trans (kp _ 3 v3)).trans (kp _ 4 v4)).trans (kp _ 5 v5)⟩
set_option maxHeartbeats 12800000 in
set_option maxRecDepth 100000 in
theorem rd_side (w : World) (C : Nat) (A : Option Addr) (n c : Nat) (L : List Int) (i : Nat) (h : CurAt w C A n c L i) (hL : ValidL L) (hn : n ≤ 100000) :
 Calls Tryz.prog 100 #[.pointer (some ⟨C, 0, none⟩)] w (SdPost w C A n c L (sideR L i)) := by
 have hl := h.len
 have HL := Lib.hid hL
 have HPK := Lib.hid (fun (W : World) (m : Nat) (h : CurAt W C A n c L m) => cur_peek2 W C A n c L m h)
 have HIT := Lib.hid (fun (W : World) (m : Nat) (h : CurAt W C A n c L m) => rd_items W C A n c L m h hL hn)
 have HSP := Lib.hid (fun (W : World) (m : Nat) (h : CurAt W C A n c L m) => rd_space W C A n c L m h)
 have hi := h.le
 have HF0 := Lib.hid (sd_start w C A n c L i h)
 obtain ⟨R, hR⟩ : ∃ R, sideR L i = R := ⟨_, rfl⟩
 rw [hR]
 obtain ⟨a0, ha0⟩ : ∃ a0, spaceP L i = a0 := ⟨_, rfl⟩
 have HA0 := Lib.hid ha0
 have HR := Lib.hid hR
 clear h hL hR ha0
 go_enter Tryz.func100, Tryz.ntmps100
 go_wp2_with fail
 refine (HSP.out _ i HF0.out.cur.cur).mono ?_
 rintro e w1 ⟨rfl, hc1, hb1⟩
 rw [HA0.out] at hc1
 have HF1 := Lib.hid (HF0.out.step hc1 hb1)
 clear hc1 hb1
 go_upto_if 14 with (go_at_call 57; refine (HPK.out _ a0 HF1.out.cur.cur).mono ?_; rintro e w2 ⟨rfl, hc2, hb2⟩)
 have HF2 := Lib.hid (HF1.out.step hc2 hb2)
 clear hc2 hb2
 go_cut [] (fun wx => ∃ a1 : Nat, a1 = (if pk L a0 = 94 then a0 + 1 else a0) ∧ SdFr w C A n c L wx a1 #[.bool (decide (pk L a0 = 94)), .bool false, .slice none 0 0, .slice none 0 0, .slice none 0 0, .int .i64 (-1)])
 case first =>
  by_cases h94 : pk L a0 = 94
  ·obtain ⟨d1, d2, d3, d4⟩ := HF2.out.cur.cur.step (by rw [← hl]; exact pk_lt (by omega))
   have HF3 := Lib.hid (HF2.out.step d3 d4)
   have z0 := HF3.out.box.frozen 0
   have z1 := HF3.out.box.cell 0
   have HF4 := Lib.hid (HF3.out.put 0 (.bool true))
   have hwa : IntKind.i64.wrap ((a0 : Int) + 1) = (a0 : Int) + 1 := wrap_small _ (by have := HF2.out.cur.cur.le; omega) (by have := HF2.out.cur.cur.le; omega)
   have H94 := Lib.hid h94
   rw [h94]
   clear d3 d4 h94
   go_wp2_with fail
   go_meet
   refine ⟨a0 + 1, by rw [if_pos H94.out], ?_⟩
   rw [show decide (pk L a0 = 94) = true from decide_eq_true H94.out]
   exact HF4.out
  ·have q94 : (pk L a0 == 94) = false := by rw [beq_eq_false_iff_ne]; exact h94
   go_wp2_with fail
   go_meet
   refine ⟨a0, by rw [if_neg h94], ?_⟩
   rw [show decide (pk L a0 = 94) = false from decide_eq_false h94]
   exact HF2.out
 case rest =>
  obtain ⟨a1, ha1, hf⟩ := hcut
  have HA1 := Lib.hid ha1
  have HFA := Lib.hid hf
  have ha1n := hf.cur.cur.le
  clear ha1 hf
  obtain ⟨st, hst⟩ : ∃ st, decide (pk L a0 = 94) = st := ⟨_, rfl⟩
  have HST := Lib.hid hst
  rw [hst] at HFA
  have c1 := HFA.out.cur.cur.blk.cell 1
  have HHE := Lib.hid (fun (e : Int × Nat) (he : headR L st a1 = .error e) => show R = .error e from HR.out.symm.trans (side_head_err HA0.out HA1.out (by rw [HST.out]; exact he)))
  have HTE := Lib.hid (fun (b s : List ItemD) (c : Int) (j : Nat) (e : Int × Nat) (he : headR L st a1 = .ok ((b, s, c), j)) (ht : tailR L j = .error e) => show R = .error e from HR.out.symm.trans (side_tail_err HA0.out HA1.out (by rw [HST.out]; exact he) ht))
  have HOK := Lib.hid (fun (b s a : List ItemD) (c : Int) (fin : Bool) (j k : Nat) (he : headR L st a1 = .ok ((b, s, c), j)) (ht : tailR L j = .ok ((a, fin), k)) => show R = .ok (⟨st, fin, b, s, a, c⟩, spaceP L k) by have := HR.out.symm.trans (side_ok_is HA0.out HA1.out (by rw [HST.out]; exact he) ht); rwa [HST.out] at this)
  clear hst
  have HI1 := Lib.hid (HIT.out _ a1 HFA.out.cur.cur)
  cases hit : itemsR L a1 with
  | error e0 =>
    obtain ⟨y, p⟩ := e0
    have HRX := Lib.hid (HHE.out (y, p) (by unfold headR; rw [hit]))
    rw [hit] at HI1
    clear hit
    go_wp2_with fail
    refine HI1.out.mono ?_
    rintro e w3 ⟨he, hb3⟩
    unfold thrown at he
    subst he
    have HB3 := Lib.hid (HFA.out.but.trans hb3)
    clear hb3
    go_wp2_with fail
    rw [HRX.out]
    exact ⟨rfl, rfl, HB3.out⟩
  | ok q =>
    obtain ⟨⟨l, cu⟩, j1⟩ := q
    have HIR := Lib.hid hit
    have hcu := itemsR_cur _ _ _ _ (Nat.zero_le _) (by decide) (by decide) (show itemsF L (L.length + 1) a1 [] (-1) = .ok ((l, cu), j1) from hit)
    rw [hit] at HI1
    clear hit
    go_wp2_with fail
    refine HI1.out.mono ?_
    rintro e w3 ⟨⟨v, rfl, hown, h20⟩, hc3, hb3⟩
    have HF3 := Lib.hid (HFA.out.step hc3 hb3)
    have hz3 := HFA.out.box.lt
    have HV3 := Lib.hid (ItemsZ.of (lo0 := w.heap.size + 2) hown h20 hz3 (by have := HFA.out.cur.lt; omega))
    obtain ⟨Av, nv, cv, rfl, _⟩ := HV3.out.form
    clear hown hc3 hb3 c1
    go_upto_if 39 with (go_at_call 57; refine (HPK.out _ j1 HF3.out.cur.cur).mono ?_; rintro e w4 ⟨rfl, hc4, hb4⟩)
    have HF4 := Lib.hid (HF3.out.step hc4 hb4)
    have HV4 := Lib.hid (HV3.out.step hb4)
    clear hc4 hb4
    have x0 : w4.cell? ⟨w.heap.size + 1, 0, none⟩ = some (.bool st) := HF4.out.box.cell 0
    go_cut [5, 6] (fun v5 v6 wx => ∃ (b s : List ItemD) (cc : Int) (j : Nat) (ub : Value), headR L st a1 = .ok ((b, s, cc), j) ∧ -1 ≤ cc ∧ cc ≤ 20 ∧ v6 = .int .i64 cc ∧ ItemsZ wx (fun b => w.heap.size + 2 ≤ b ∧ b ≠ C) v5 s ∧ ItemsZ wx (fun b => w.heap.size + 2 ≤ b ∧ b ≠ C) ub b ∧ SdFr w C A n c L wx j #[.bool st, .bool false, ub, .slice none 0 0, .slice none 0 0, .int .i64 (-1)])
    case first =>
     by_cases h123 : pk L j1 = 123
     ·have hlt : j1 < n := by rw [← hl]; exact pk_lt (by omega)
      have H123 := Lib.hid h123
      rw [h123]
      by_cases hc : 0 ≤ cu
      ·have HRX := Lib.hid (HHE.out (8, a1) (head_many HIR.out h123 hc))
       have hg : decide ((0 : Int) ≤ cu) = true := decide_eq_true hc
       clear h123
       go_wp2_with fail
       refine (syn_fail 8 a1 _).mono ?_
       rintro e w5 ⟨rfl, rfl⟩
       go_wp2_with fail
       rw [HRX.out]
       exact ⟨rfl, rfl, HF4.out.but⟩
      ·have hg : decide ((0 : Int) ≤ cu) = false := decide_eq_false hc
       obtain ⟨d1, d2, d3, d4⟩ := HF4.out.cur.cur.step hlt
       have HF5 := Lib.hid (HF4.out.step d3 d4)
       have HV5 := Lib.hid (HV4.out.step d4)
       have hwa : IntKind.i64.wrap ((j1 : Int) + 1) = (j1 : Int) + 1 := wrap_small _ (by omega) (by omega)
       have z2 := HF5.out.box.frozen 2
       have y2 := HF5.out.box.cell 2
       have HF6 := Lib.hid (HF5.out.put 2 (.slice Av nv cv))
       have HV6 := Lib.hid (HV5.out.put (k := 2) (x := .slice Av nv cv))
       have HI2 := Lib.hid (HIT.out _ (j1 + 1) HF6.out.cur.cur)
       clear d3 d4 h123 x0
       cases hit2 : itemsR L (j1 + 1) with
       | error e0 =>
         obtain ⟨y, p⟩ := e0
         have HRX := Lib.hid (HHE.out (y, p) (head_inner HIR.out H123.out hc hit2))
         rw [hit2] at HI2
         clear hit2
         go_wp2_with fail
         refine HI2.out.mono ?_
         rintro e w7 ⟨he, hb7⟩
         unfold thrown at he
         subst he
         have HB7 := Lib.hid (HF6.out.but.trans hb7)
         clear hb7
         go_wp2_with fail
         rw [HRX.out]
         exact ⟨rfl, rfl, HB7.out⟩
       | ok q =>
         obtain ⟨⟨l2, c2⟩, j2⟩ := q
         have HHX := Lib.hid (show headR L st a1 = .ok ((l, l2, c2), j2) from head_two HIR.out H123.out hc hit2)
         have hc2 := itemsR_cur _ _ _ _ (Nat.zero_le _) (by decide) (by decide) (show itemsF L (L.length + 1) (j1 + 1) [] (-1) = .ok ((l2, c2), j2) from hit2)
         rw [hit2] at HI2
         clear hit2
         go_wp2_with fail
         refine HI2.out.mono ?_
         rintro e w7 ⟨⟨v7, rfl, hown7, h27⟩, hc7, hb7⟩
         have HF7 := Lib.hid (HF6.out.step hc7 hb7)
         have HV7 := Lib.hid (HV6.out.step hb7)
         have hz6 := HF6.out.box.lt
         have HU7 := Lib.hid (ItemsZ.of (lo0 := w.heap.size + 2) hown7 h27 hz6 (by have := HF6.out.cur.lt; have := HF6.out.but.1; omega))
         obtain ⟨A7, n7, c7, rfl, _⟩ := HU7.out.form
         clear hown7 hc7 hb7
         go_wp2_with fail
         go_meet
         exact ⟨l, l2, c2, j2, _, HHX.out, hc2.1, hc2.2, rfl, HU7.out, HV7.out, HF7.out⟩
     ·have q123 : (pk L j1 == 123) = false := by rw [beq_eq_false_iff_ne]; exact h123
      cases st with
      | true =>
        have HRX := Lib.hid (HHE.out (2, j1) (head_need HIR.out h123))
        have y1 := HF4.out.cur.cur.blk.cell 1
        go_wp2_with fail
        refine (syn_fail 2 j1 _).mono ?_
        rintro e w5 ⟨rfl, rfl⟩
        go_wp2_with fail
        rw [HRX.out]
        exact ⟨rfl, rfl, HF4.out.but⟩
      | false =>
        have HHX := Lib.hid (show headR L false a1 = .ok (([], l, cu), j1) from head_one HIR.out h123)
        go_wp2_with fail
        go_meet
        exact ⟨[], l, cu, j1, _, HHX.out, hcu.1, hcu.2, rfl, HV4.out, ItemsZ.nil _ _, HF4.out⟩
    case rest =>
     obtain ⟨b, ss, cc, j, ub, hhd, hc0, hc1, rfl, hus, hub, hf⟩ := hcut
     obtain ⟨As, ns, cs, rfl, _⟩ := hus.form
     have HHD := Lib.hid hhd
     have z3 := hf.box.frozen 3
     have z5 := hf.box.frozen 5
     have y3 := hf.box.cell 3
     have y5 := hf.box.cell 5
     have HF5 := Lib.hid ((hf.put 3 (.slice As ns cs)).put 5 (.int .i64 cc))
     have HS5 := Lib.hid ((hus.put (k := 3) (x := .slice As ns cs)).put (k := 5) (x := .int .i64 cc))
     have HU5 := Lib.hid ((hub.put (k := 3) (x := .slice As ns cs)).put (k := 5) (x := .int .i64 cc))
     clear hus hub hf hhd x0
     go_upto_if 76 with (go_at_call 57; refine (HPK.out _ j HF5.out.cur.cur).mono ?_; rintro e w6 ⟨rfl, hc6, hb6⟩)
     have HF6 := Lib.hid (HF5.out.step hc6 hb6)
     have HS6 := Lib.hid (HS5.out.step hb6)
     have HU6 := Lib.hid (HU5.out.step hb6)
     clear hc6 hb6 z3 z5 y3 y5
     go_cut [] (fun wx => ∃ (a : List ItemD) (fin : Bool) (k : Nat) (ua : Value), tailR L j = .ok ((a, fin), k) ∧ ItemsZ wx (fun b => w.heap.size + 2 ≤ b ∧ b ≠ C) ua a ∧ ItemsZ wx (fun b => w.heap.size + 2 ≤ b ∧ b ≠ C) (.slice As ns cs) ss ∧ ItemsZ wx (fun b => w.heap.size + 2 ≤ b ∧ b ≠ C) ub b ∧ SdFr w C A n c L wx k #[.bool st, .bool fin, ub, .slice As ns cs, ua, .int .i64 cc])
     case first =>
      by_cases h125 : pk L j = 125
      ·have hlt : j < n := by rw [← hl]; exact pk_lt (by omega)
       have H125 := Lib.hid h125
       rw [h125]
       obtain ⟨d1, d2, d3, d4⟩ := HF6.out.cur.cur.step hlt
       have HF7 := Lib.hid (HF6.out.step d3 d4)
       have HS7 := Lib.hid (HS6.out.step d4)
       have HU7 := Lib.hid (HU6.out.step d4)
       have hwa : IntKind.i64.wrap ((j : Int) + 1) = (j : Int) + 1 := wrap_small _ (by omega) (by omega)
       have HI3 := Lib.hid (HIT.out _ (j + 1) HF7.out.cur.cur)
       have yc := HF7.out.cur.cur.blk.cell 1
       clear d3 d4 h125
       cases hit3 : itemsR L (j + 1) with
       | error e0 =>
         obtain ⟨y, p⟩ := e0
         have HRX := Lib.hid (HTE.out b ss cc j (y, p) HHD.out (tail_inner H125.out hit3))
         rw [hit3] at HI3
         clear hit3
         go_wp2_with fail
         refine HI3.out.mono ?_
         rintro e w8 ⟨he, hb8⟩
         unfold thrown at he
         subst he
         have HB8 := Lib.hid (HF7.out.but.trans hb8)
         clear hb8
         go_wp2_with fail
         rw [HRX.out]
         exact ⟨rfl, rfl, HB8.out⟩
       | ok q =>
         obtain ⟨⟨l3, c3⟩, k⟩ := q
         have HTX := Lib.hid (show tailR L j = (if 0 ≤ c3 then .error (8, j + 1) else if pk L k = 36 then .ok ((l3, true), k + 1) else .ok ((l3, false), k)) from tail_rest H125.out hit3)
         rw [hit3] at HI3
         clear hit3
         go_wp2_with fail
         refine HI3.out.mono ?_
         rintro e w8 ⟨⟨v8, rfl, hown8, h28⟩, hc8, hb8⟩
         have HF8 := Lib.hid (HF7.out.step hc8 hb8)
         have HS8 := Lib.hid (HS7.out.step hb8)
         have HU8 := Lib.hid (HU7.out.step hb8)
         have hz7 := HF7.out.box.lt
         have HT8 := Lib.hid (ItemsZ.of (lo0 := w.heap.size + 2) hown8 h28 hz7 (by have := HF7.out.cur.lt; have := HF7.out.but.1; omega))
         obtain ⟨A8, n8, c8, rfl, _⟩ := HT8.out.form
         have z4 := HF8.out.box.frozen 4
         have y4 := HF8.out.box.cell 4
         have HF9 := Lib.hid (HF8.out.put 4 (.slice A8 n8 c8))
         have HS9 := Lib.hid (HS8.out.put (k := 4) (x := .slice A8 n8 c8))
         have HU9 := Lib.hid (HU8.out.put (k := 4) (x := .slice A8 n8 c8))
         have HT9 := Lib.hid (HT8.out.put (k := 4) (x := .slice A8 n8 c8))
         clear hown8 hc8 hb8
         by_cases hc : 0 ≤ c3
         ·have HRX := Lib.hid (HTE.out b ss cc j (8, j + 1) HHD.out (by rw [HTX.out, if_pos hc]))
          have hg : decide ((0 : Int) ≤ c3) = true := decide_eq_true hc
          have HJ1 := Lib.hid (show ((j + 1 : Nat) : Int) = (j : Int) + 1 by omega)
          go_wp2_with fail
          refine (syn_fail 8 ((j : Int) + 1) _).mono ?_
          rintro e w9 ⟨rfl, rfl⟩
          go_wp2_with fail
          rw [HRX.out]
          exact ⟨rfl, rfl, HF9.out.but⟩
         ·have hg : decide ((0 : Int) ≤ c3) = false := decide_eq_false hc
          go_wp2_with fail
          refine (HPK.out _ k HF9.out.cur.cur).mono ?_
          rintro e w9 ⟨rfl, hc9, hb9⟩
          have HF10 := Lib.hid (HF9.out.step hc9 hb9)
          have HS10 := Lib.hid (HS9.out.step hb9)
          have HU10 := Lib.hid (HU9.out.step hb9)
          have HT10 := Lib.hid (HT9.out.step hb9)
          clear hc9 hb9
          by_cases h36 : pk L k = 36
          ·have hltk : k < n := by rw [← hl]; exact pk_lt (by omega)
           have HTT := Lib.hid (show tailR L j = .ok ((l3, true), k + 1) by rw [HTX.out, if_neg (by omega), if_pos h36])
           rw [h36]
           obtain ⟨d1, d2, d3, d4⟩ := HF10.out.cur.cur.step hltk
           have HF11 := Lib.hid (HF10.out.step d3 d4)
           have HS11 := Lib.hid (HS10.out.step d4)
           have HU11 := Lib.hid (HU10.out.step d4)
           have HT11 := Lib.hid (HT10.out.step d4)
           have hwk : IntKind.i64.wrap ((k : Int) + 1) = (k : Int) + 1 := wrap_small _ (by omega) (by omega)
           have z1 := HF11.out.box.frozen 1
           have y1 := HF11.out.box.cell 1
           have HF12 := Lib.hid (HF11.out.put 1 (.bool true))
           have HS12 := Lib.hid (HS11.out.put (k := 1) (x := .bool true))
           have HU12 := Lib.hid (HU11.out.put (k := 1) (x := .bool true))
           have HT12 := Lib.hid (HT11.out.put (k := 1) (x := .bool true))
           clear d3 d4 h36 z4 y4
           go_wp2_with fail
           go_meet
           exact ⟨l3, true, k + 1, _, HTT.out, HT12.out, HS12.out, HU12.out, HF12.out⟩
          ·have q36 : (pk L k == 36) = false := by rw [beq_eq_false_iff_ne]; exact h36
           have HTT := Lib.hid (show tailR L j = .ok ((l3, false), k) by rw [HTX.out, if_neg (by omega), if_neg h36])
           go_wp2_with fail
           go_meet
           exact ⟨l3, false, k, _, HTT.out, HT10.out, HS10.out, HU10.out, HF10.out⟩
      ·have q125 : (pk L j == 125) = false := by rw [beq_eq_false_iff_ne]; exact h125
       have HTT := Lib.hid (show tailR L j = .ok (([], false), j) from tail_no h125)
       go_wp2_with fail
       go_meet
       exact ⟨[], false, j, _, HTT.out, ItemsZ.nil _ _, HS6.out, HU6.out, HF6.out⟩
     case rest =>
      obtain ⟨a, fin, k, ua, htl, hua, hus, hub, hf⟩ := hcut
      obtain ⟨Aa, na, ca, rfl, _⟩ := hua.form
      obtain ⟨Ab, nb, cb, rfl, _⟩ := hub.form
      have HRX := Lib.hid (HOK.out b ss a cc fin j k HHD.out htl)
      have HF13 := Lib.hid hf
      have HA13 := Lib.hid hua
      have HS13 := Lib.hid hus
      have HU13 := Lib.hid hub
      clear hua hus hub hf htl
      go_wp2_with fail
      refine (HSP.out _ k HF13.out.cur.cur).mono ?_
      rintro e w14 ⟨rfl, hc14, hb14⟩
      have hf14 := HF13.out.step hc14 hb14
      have HA14 := Lib.hid (HA13.out.step hb14)
      have HS14 := Lib.hid (HS13.out.step hb14)
      have HU14 := Lib.hid (HU13.out.step hb14)
      have y0 := hf14.box.cell 0
      have y1 := hf14.box.cell 1
      have y2 := hf14.box.cell 2
      have y3 := hf14.box.cell 3
      have y4 := hf14.box.cell 4
      have y5 := hf14.box.cell 5
      have x0 := hf14.res.cell 0
      have x1 := hf14.res.cell 1
      have x2 := hf14.res.cell 2
      have x3 := hf14.res.cell 3
      have x4 := hf14.res.cell 4
      have x5 := hf14.res.cell 5
      have z0 := hf14.res.frozen 0
      have z1 := hf14.res.frozen 1
      have z2 := hf14.res.frozen 2
      have z3 := hf14.res.frozen 3
      have z4 := hf14.res.frozen 4
      have z5 := hf14.res.frozen 5
      obtain ⟨e1, e2, e3, e4⟩ := sd_done hf14 (.bool st) (.bool fin) (.slice Ab nb cb) (.slice As ns cs) (.slice Aa na ca) (.int .i64 cc)
      have HE1 := Lib.hid e1
      have HE2 := Lib.hid e2
      have HE3 := Lib.hid e3
      have HE4 := Lib.hid e4
      clear e1 e2 e3 e4 hc14 hb14 hf14
      go_wp2_with fail
      clear x0 x1 x2 x3 x4 x5 y0 y1 y2 y3 y4 y5 z0 z1 z2 z3 z4 z5 HF13 HA13 HS13 HU13
      generalize ((((((w14.setCell ⟨w.heap.size, 0, none⟩ (.bool st)).setCell ⟨w.heap.size, 1, none⟩ (.bool fin)).setCell ⟨w.heap.size, 2, none⟩ (.slice Ab nb cb)).setCell ⟨w.heap.size, 3, none⟩ (.slice As ns cs)).setCell ⟨w.heap.size, 4, none⟩ (.slice Aa na ca)).setCell ⟨w.heap.size, 5, none⟩ (.int .i64 cc)) = W6 at *
      have hbk := HE3.out
      have r0 : W6.cell? ⟨w.heap.size, 0, none⟩ = some (.bool st) := hbk.cell 0
      have r1 : W6.cell? ⟨w.heap.size, 1, none⟩ = some (.bool fin) := hbk.cell 1
      have r2 : W6.cell? ⟨w.heap.size, 2, none⟩ = some (.slice Ab nb cb) := hbk.cell 2
      have r3 : W6.cell? ⟨w.heap.size, 3, none⟩ = some (.slice As ns cs) := hbk.cell 3
      have r4 : W6.cell? ⟨w.heap.size, 4, none⟩ = some (.slice Aa na ca) := hbk.cell 4
      have r5 : W6.cell? ⟨w.heap.size, 5, none⟩ = some (.int .i64 cc) := hbk.cell 5
      clear hbk
      refine bodyPost_ret (v := .agg #[.bool st, .bool fin, .slice Ab nb cb, .slice As ns cs, .slice Aa na ca, .int .i64 cc]) (by simp [results, Tryz.results100, go_sem, r0, r1, r2, r3, r4, r5]) rfl ?_
      rw [HRX.out]
      exact ⟨⟨_, _, _, rfl, HU14.out.keep HE4.out, HS14.out.keep HE4.out, HA14.out.keep HE4.out⟩, HE1.out, HE2.out⟩
end Go.Proofs.YthnhbcohfoodlaaGreatDoor

namespace Go.Proofs.YthnhbcohfoodlaaGreatDoor
open Go.RowKit
theorem stored_again {w : World} {R F m : Nat} {v : Value} {x p : Int} {tR tF : TypeId} (hR : Blk w R tR #[v]) (hF : Blk w F tF #[.int .i64 x, .int .i64 p]) (hne : R ≠ F) :
 Blk ((((w.drewN m).setCell ⟨R, 0, none⟩ v).setCell ⟨F, 0, none⟩ (.int .i64 x)).setCell ⟨F, 1, none⟩ (.int .i64 p)) R tR #[v] ∧ Blk ((((w.drewN m).setCell ⟨R, 0, none⟩ v).setCell ⟨F, 0, none⟩ (.int .i64 x)).setCell ⟨F, 1, none⟩ (.int .i64 p)) F tF #[.int .i64 x, .int .i64 p] ∧
  ∀ B, B ≤ R → B ≤ F → B ≤ w.heap.size → Below B w ((((w.drewN m).setCell ⟨R, 0, none⟩ v).setCell ⟨F, 0, none⟩ (.int .i64 x)).setCell ⟨F, 1, none⟩ (.int .i64 p)) ∧
   Keeps w (fun b => b ≠ R ∧ b ≠ F) ((((w.drewN m).setCell ⟨R, 0, none⟩ v).setCell ⟨F, 0, none⟩ (.int .i64 x)).setCell ⟨F, 1, none⟩ (.int .i64 p)) (fun b => b ≠ R ∧ b ≠ F) := by
 have h1 : Blk ((w.drewN m).setCell ⟨R, 0, none⟩ v) R tR #[v] := (hR.drewN m).put 0 v
 have b1 := But.set (w.drewN m) R 0 v
 have g1 : Blk ((w.drewN m).setCell ⟨R, 0, none⟩ v) F tF #[.int .i64 x, .int .i64 p] := (b1.2.2.2.2 F (hF.drewN m).lt (Ne.symm hne)).trans (hF.drewN m)
 have b2 := But.set ((w.drewN m).setCell ⟨R, 0, none⟩ v) F 0 (.int .i64 x)
 have g2 : Blk (((w.drewN m).setCell ⟨R, 0, none⟩ v).setCell ⟨F, 0, none⟩ (.int .i64 x)) F tF #[.int .i64 x, .int .i64 p] := g1.put 0 _
 have h2 : Blk (((w.drewN m).setCell ⟨R, 0, none⟩ v).setCell ⟨F, 0, none⟩ (.int .i64 x)) R tR #[v] := (b2.2.2.2.2 R h1.lt hne).trans h1
 have b3 := But.set (((w.drewN m).setCell ⟨R, 0, none⟩ v).setCell ⟨F, 0, none⟩ (.int .i64 x)) F 1 (.int .i64 p)
 refine ⟨(b3.2.2.2.2 R h2.lt hne).trans h2, g2.put 1 _, fun B hR hF hw => ⟨?_, ?_⟩⟩
 ·exact ((below_drewN (Below.refl B w) m).trans (b1.to (show B ≤ (w.drewN m).heap.size from hw) hR)).trans ((b2.to (Nat.le_trans hw b1.1) hF).trans (b3.to (Nat.le_trans (Nat.le_trans hw b1.1) b2.1) hF))
 ·exact (((Keeps.below (below_drewN (Below.refl _ w) m) (fun b h _ => h)).trans (b1.keeps (X' := fun b => b ≠ R ∧ b ≠ F) (fun b h => h.1) (fun b h _ => h))).trans (b2.keeps (X' := fun b => b ≠ R ∧ b ≠ F) (fun b h => h.2) (fun b h _ => h))).trans (b3.keeps (fun b h => h.2) (fun b h _ => h))
def ErrNum {α : Type} (r : Rdg α) : Prop := ∀ e p, r = .error (e, p) → e ≠ 0
theorem needP_num {L : List Int} {i : Nat} {r : Int} {e : Int} {p : Nat} (h : needP L i r = .error (e, p)) : e ≠ 0 := by
 unfold needP at h
 split at h
 ·cases h
 ·injection h with h; injection h with h1 h2; omega
theorem hexP_num (L : List Int) (i : Nat) : ErrNum (hexP L i) := by
 intro e p h
 unfold hexP at h
 cases h1 : needP L (i + 1) 123 with
 | error x => obtain ⟨x1, x2⟩ := x; rw [h1] at h; simp only at h; injection h with h; injection h with h3 h4; subst h3; exact needP_num h1
 | ok a =>
   rw [h1] at h
   simp only at h
   split at h
   ·injection h with h; injection h with h1 h2; omega
   ·cases h2 : needP L (runFrom hexB L a) 125 with
    | error x => obtain ⟨x1, x2⟩ := x; rw [h2] at h; simp only at h; injection h with h; injection h with h3 h4; subst h3; exact needP_num h2
    | ok k =>
      rw [h2] at h
      simp only at h
      split at h
      ·injection h with h; injection h with h1 h2; omega
      ·cases h
theorem charP_num (L : List Int) (i : Nat) : ErrNum (charP L i) := by
 intro e p h
 unfold charP at h
 repeat' (split at h)
 any_goals (cases h; done)
 any_goals (injection h with h; injection h with h1 h2; omega)
 exact hexP_num _ _ _ _ h
theorem spanP_num (L : List Int) (i : Nat) : ErrNum (spanP L i) := by
 intro e p h
 unfold spanP at h
 cases h1 : charP L i with
 | error x => obtain ⟨x1, x2⟩ := x; rw [h1] at h; simp only at h; injection h with h; injection h with h3 h4; subst h3; exact charP_num _ _ _ _ h1
 | ok q =>
   obtain ⟨a, j⟩ := q
   rw [h1] at h
   simp only at h
   split at h
   ·cases h2 : charP L (j + 1) with
    | error x => obtain ⟨x1, x2⟩ := x; rw [h2] at h; simp only at h; injection h with h; injection h with h3 h4; subst h3; exact charP_num _ _ _ _ h2
    | ok q =>
      obtain ⟨b, k⟩ := q
      rw [h2] at h
      simp only at h
      split at h
      ·injection h with h; injection h with h1 h2; omega
      ·cases h
   ·cases h
theorem classP_num (L : List Int) (i : Nat) : ErrNum (classP L i) := by
 intro e p h
 unfold classP at h
 split at h
 ·injection h with h; injection h with h1 h2; omega
 ·split at h
  ·rename_i h1; cases h; exact needP_num h1
  ·split at h
   ·rename_i h1; cases h; exact needP_num h1
   ·cases h
theorem partP_num {inner : Nat → Rdg Spans} (hi : ∀ i, ErrNum (inner i)) (L : List Int) (i : Nat) : ErrNum (partP' inner L i) := by
 intro e p h
 unfold partP' at h
 split at h
 ·exact classP_num _ _ _ _ h
 ·split at h
  ·exact hi _ _ _ h
  ·split at h
   ·exact hi _ _ _ h
   ·split at h
    ·rename_i h1; cases h; exact spanP_num _ _ _ _ h1
    ·cases h
theorem partsP_num {inner : Nat → Rdg Spans} (hi : ∀ i, ErrNum (inner i)) (L : List Int) : ∀ f i s, ErrNum (partsP inner L f i s) := by
 intro f
 induction f with
 | zero => intro i s e p h; unfold partsP at h; injection h with h; injection h with h1 h2; omega
 | succ f ih =>
   intro i s e p h
   rw [partsP] at h
   split at h
   ·cases h
   ·split at h
    ·rename_i h1; cases h; exact partP_num hi _ _ _ _ h1
    ·split at h
     ·rename_i h1; injection h with h; injection h with h2 h3; subst h2; exact h1
     ·exact ih _ _ _ _ h
theorem setP_num (L : List Int) : ∀ n i, ErrNum (setP' L n i) := by
 intro n
 induction n with
 | zero => intro i e p h; unfold setP' at h; injection h with h; injection h with h1 h2; split at h1 <;> omega
 | succ n ih =>
   intro i e p h
   rw [setP'] at h
   split at h
   ·rename_i h1; cases h; exact needP_num h1
   ·split at h
    ·rename_i h1; cases h; exact partsP_num ih _ _ _ _ _ _ h1
    ·split at h
     ·split at h
      ·rename_i h1; injection h with h; injection h with h2 h3; subst h2; exact h1
      ·cases h
     ·cases h
end Go.Proofs.YthnhbcohfoodlaaGreatDoor

namespace Go.Proofs.YthnhbcohfoodlaaGreatDoor
open Go.RowKit
theorem nameP_num (L : List Int) (i : Nat) : ErrNum (nameP L i) := by
 intro e p h
 unfold nameP at h
 split at h
 ·cases h
 ·injection h with h; injection h with h1 h2; omega
theorem quotedP_num (L : List Int) (i : Nat) : ErrNum (quotedP L i) := by
 intro e p h
 unfold quotedP at h
 split at h
 ·cases h
 ·injection h with h; injection h with h1 h2; omega
theorem elemP_num (L : List Int) (a : Nat) (out : List ItemD) (cur : Int) (e : Int) (p : Nat) (h : elemP L a out cur = .error (e, p)) : e ≠ 0 := by
 unfold elemP at h
 split at h
 ·split at h
  ·injection h with h; injection h with h1 h2; omega
  ·cases h
 ·split at h
  ·split at h
   ·rename_i h1; injection h with h; subst h; exact setP_num L 20 a _ _ h1
   ·cases h
  ·split at h
   ·split at h
    ·rename_i h1; injection h with h; subst h; exact nameP_num L _ _ _ h1
    ·cases h
   ·split at h
    ·split at h
     ·rename_i h1; injection h with h; subst h; exact quotedP_num L _ _ _ h1
     ·cases h
    ·split at h
     ·split at h
      ·rename_i h1; injection h with h; subst h; exact charP_num L _ _ _ h1
      ·split at h
       ·cases h
       ·injection h with h; injection h with h1 h2; omega
     ·cases h
theorem itemsF_num (L : List Int) : ∀ f i out cur, ErrNum (itemsF L f i out cur) := by
 intro f
 induction f with
 | zero => intro i out cur e p h; rw [itemsF] at h; injection h with h; injection h with h1 h2; omega
 | succ f ih =>
   intro i out cur e p h
   rw [itemsF] at h
   split at h
   ·rename_i h1; injection h with h; subst h; exact elemP_num L _ _ _ _ _ h1
   ·cases h
   ·split at h
    ·injection h with h; injection h with h1 h2; omega
    ·exact ih _ _ _ _ _ h
theorem headR_num (L : List Int) (st : Bool) (a : Nat) : ErrNum (headR L st a) := by
 intro e p h
 unfold headR at h
 split at h
 ·rename_i h1; injection h with h; subst h; exact itemsF_num L _ _ _ _ _ _ h1
 ·split at h
  ·split at h
   ·injection h with h; injection h with h1 h2; omega
   ·split at h
    ·rename_i h1; injection h with h; subst h; exact itemsF_num L _ _ _ _ _ _ h1
    ·cases h
  ·split at h
   ·injection h with h; injection h with h1 h2; omega
   ·cases h
theorem tailR_num (L : List Int) (a : Nat) : ErrNum (tailR L a) := by
 intro e p h
 unfold tailR at h
 split at h
 ·split at h
  ·rename_i h1; injection h with h; subst h; exact itemsF_num L _ _ _ _ _ _ h1
  ·split at h
   ·injection h with h; injection h with h1 h2; omega
   ·split at h <;> cases h
 ·cases h
theorem sideR_num (L : List Int) (i : Nat) : ErrNum (sideR L i) := by
 intro e p h
 unfold sideR at h
 split at h
 ·rename_i h1; injection h with h; subst h; exact headR_num L _ _ _ _ h1
 ·split at h
  ·rename_i h1; injection h with h; subst h; exact tailR_num L _ _ _ h1
  ·cases h
theorem arrowR_num (L : List Int) (i : Nat) : ErrNum (arrowR L i) := by
 intro e p h
 unfold arrowR at h
 split at h
 ·cases h
 ·split at h
  ·cases h
  ·split at h
   ·rename_i h1; injection h with h; subst h; exact needP_num h1
   ·cases h
theorem partR_num (L : List Int) (i : Nat) : ErrNum (partR L i) := by
 intro e p h
 unfold partR at h
 split at h
 ·unfold passR at h
  split at h
  ·rename_i h1; injection h with h; subst h; exact needP_num h1
  ·split at h
   ·split at h
    ·rename_i h1; injection h with h; subst h; exact setP_num L 20 _ _ _ h1
    ·cases h
   ·split at h
    ·cases h
    ·injection h with h; injection h with h1 h2; omega
 ·split at h
  ·unfold varR at h
   split at h
   ·rename_i h1; injection h with h; subst h; exact nameP_num L _ _ _ h1
   ·split at h
    ·rename_i h1; injection h with h; subst h; exact needP_num h1
    ·split at h
     ·rename_i h1; injection h with h; subst h; exact setP_num L 20 _ _ _ h1
     ·cases h
  ·unfold ruleR at h
   split at h
   ·rename_i h1; injection h with h; subst h; exact sideR_num L _ _ _ h1
   ·split at h
    ·rename_i h1; injection h with h; subst h; exact arrowR_num L _ _ _ h1
    ·split at h
     ·rename_i h1; injection h with h; subst h; exact sideR_num L _ _ _ h1
     ·split at h
      ·rename_i h1; injection h with h; injection h with h2 h3; subst h2; exact h1
      ·cases h
theorem fileF_num (L : List Int) : ∀ f i l (e : Int) (p : Nat), fileF L f i l = .error (e, p) → e ≠ 0 := by
 intro f
 induction f with
 | zero => intro i l e p h; rw [fileF] at h; injection h with h; injection h with h1 h2; omega
 | succ f ih =>
   intro i l e p h
   rw [fileF] at h
   split at h
   ·cases h
   ·split at h
    ·injection h with h; injection h with h1 h2; omega
    ·split at h
     ·rename_i h1; injection h with h; subst h; exact partR_num L _ _ _ h1
     ·split at h
      ·rename_i h1; injection h with h; subst h; exact needP_num h1
      ·exact ih _ _ _ _ h
theorem rulesP_much {L : List Int} (h : 16000 < L.length) : rulesP L = ([], (4, 0)) := by unfold rulesP; rw [if_pos h]
theorem rulesP_err {L : List Int} {e : Int} {p : Nat} (h : ¬ 16000 < L.length) (h2 : fileF L (L.length + 1) 0 [] = .error (e, p)) : rulesP L = ([], (e, (p : Int))) := by unfold rulesP; rw [if_neg h, h2]
theorem rulesP_ok {L : List Int} {l : List PartD} (h : ¬ 16000 < L.length) (h2 : fileF L (L.length + 1) 0 [] = .ok l) : rulesP L = (l, (0, 0)) := by unfold rulesP; rw [if_neg h, h2]
end Go.Proofs.YthnhbcohfoodlaaGreatDoor
