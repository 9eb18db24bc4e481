/- CurChar + Caught + PrintRef0 -/
import Derived.Test.YthnhbcohfoodlaaGreatDoorZt34
import Derived.Defers
import Derived.Recover
import Derived.Test.YthnhbcohfoodlaaGreatDoorZt27
import Derived.Deep.CutBlock
import Derived.Deep.DeepCutAuto
import Derived.Deep.RegionHeldLaw
namespace Go.Proofs.YthnhbcohfoodlaaGreatDoor
open Go.RowKit
theorem charP_plain {L : List Int} {i : Nat} (h : plainB (pk L i) = true) : charP L i = .ok (pk L i, i + 1) := by unfold charP; rw [if_pos h]
theorem charP_no {L : List Int} {i : Nat} (h : plainB (pk L i) = false) (h2 : pk L i ≠ 92) : charP L i = .error (2, i) := by unfold charP; rw [if_neg (by rw [h]; decide), if_pos h2]
theorem charP_esc {L : List Int} {i : Nat} (h2 : pk L i = 92) : charP L i = if pk L (i + 1) = 110 then .ok (10, i + 2)
 else if pk L (i + 1) = 116 then .ok (9, i + 2)
 else if pk L (i + 1) = 117 then hexP L (i + 1)
 else if pk L (i + 1) < 0 ∨ alnB (pk L (i + 1)) = true then .error (2, i + 1)
 else .ok (pk L (i + 1), i + 2) := by
 unfold charP
 rw [if_neg (by rw [h2]; decide), if_neg (by rw [h2]; decide)]
theorem alnB_iff (r : Int) : alnB r = true ↔ (48 ≤ r ∧ r ≤ 57) ∨ (97 ≤ r ∧ r ≤ 122) ∨ (65 ≤ r ∧ r ≤ 90) := by
 unfold alnB
 simp only [Bool.or_eq_true, Bool.and_eq_true, decide_eq_true_eq]
theorem CurAt.step {w : World} {C : Nat} {A : Option Addr} {n c : Nat} {L : List Int} {i : Nat} (h : CurAt w C A n c L i) (hi : i < n) :
 w.cell? ⟨C, 1, none⟩ = some (.int .i64 i) ∧ w.frozen? ⟨C, 1, none⟩ = false ∧ CurAt (w.setCell ⟨C, 1, none⟩ (.int .i64 ((i : Int) + 1))) C A n c L (i + 1) ∧ But w C (w.setCell ⟨C, 1, none⟩ (.int .i64 ((i : Int) + 1))) := by
 have hm := h.move (j := i + 1) hi
 rw [show (((i + 1 : Nat)) : Int) = (i : Int) + 1 by omega] at hm
 exact ⟨h.blk.cell 1, h.blk.frozen 1, hm, But.set w C 1 _⟩
set_option maxHeartbeats 3200000 in
set_option maxRecDepth 100000 in
theorem cur_char (w : World) (C : Nat) (A : Option Addr) (n c : Nat) (L : List Int) (i : Nat) (h : CurAt w C A n c L i) (hL : ValidL L) :
 Calls Tryz.prog 130 #[.pointer (some ⟨C, 0, none⟩)] w (CharPost w C A n c L (charP L i)) := by
 have hs := h.size
 have hlen := h.len
 have HL := Lib.hid hL
 have HC := Lib.hid h
 have HPK := Lib.hid (fun (W : World) (k : Nat) (h : CurAt W C A n c L k) => cur_peek W C A n c L k h)
 have HPL := Lib.hid (fun (W : World) (k : Nat) => syn_plain (pk L k) W (hL.pk k))
 have hw1 : IntKind.i64.wrap ((i : Int) + 1) = (i : Int) + 1 := wrap_small _ (by have := h.le; omega) (by have := h.le; omega)
 have hle := h.le
 clear h hL
 obtain ⟨R, hR⟩ : ∃ R, charP L i = R := ⟨_, rfl⟩
 rw [hR]
 have HR0 := Lib.hid hR
 clear hR
 cases hp : plainB (pk L i) with
 | true =>
   have hlt : i < L.length := pk_lt (fun e => by rw [e] at hp; exact absurd hp (by decide))
   have HR1 := Lib.hid (show R = .ok (pk L i, i + 1) from HR0.out.symm.trans (charP_plain hp))
   have HPL1 := Lib.hid (fun (W : World) => show Calls Tryz.prog 128 #[.int .i32 (pk L i)] W fun e w' => e = .returned (.bool true) ∧ Below W.heap.size W w' by have := HPL.out W i; rwa [hp] at this)
   clear hp
   go_enter Tryz.func130, Tryz.ntmps130
   go_wp2_with fail
   refine (HPK.out _ _ HC.out).mono ?_
   rintro e w1 ⟨rfl, m, rfl⟩
   go_wp2_with fail
   refine (HPL1.out _).mono ?_
   rintro e w2 ⟨rfl, hb⟩
   have HC2 := Lib.hid ((HC.out.drewN m).below hb)
   have HB2 := Lib.hid ((But.drewN w C m).trans (But.below C hb))
   clear hb
   obtain ⟨d1, d2, d3, d4⟩ := HC2.out.step (by omega)
   have HC3 := Lib.hid d3
   have HB3 := Lib.hid (HB2.out.trans d4)
   clear d3 d4
   go_wp2_with fail
   go_ret
   rw [HR1.out]
   exact ⟨rfl, HC3.out, HB3.out⟩
 | false =>
   have HPL1 := Lib.hid (fun (W : World) => show Calls Tryz.prog 128 #[.int .i32 (pk L i)] W fun e w' => e = .returned (.bool false) ∧ Below W.heap.size W w' by have := HPL.out W i; rwa [hp] at this)
   by_cases h92 : pk L i = 92
   ·have hlt : i < L.length := pk_lt (by omega)
    have HRE := Lib.hid (HR0.out.symm.trans (charP_esc h92))
    have HPK1 := Lib.hid (fun (W : World) (h : CurAt W C A n c L i) => show Calls Tryz.prog 57 #[.pointer (some ⟨C, 0, none⟩)] W fun e w' => e = .returned (.int .i32 92) ∧ ∃ m, w' = W.drewN m by have := HPK.out W i h; rwa [h92] at this)
    rw [h92] at HPL1
    clear hp h92
    go_enter Tryz.func130, Tryz.ntmps130
    go_wp2_with fail
    refine (HPK1.out _ HC.out).mono ?_
    rintro e w1 ⟨rfl, m, rfl⟩
    go_wp2_with fail
    refine (HPL1.out _).mono ?_
    rintro e w2 ⟨rfl, hb⟩
    have HC2 := Lib.hid ((HC.out.drewN m).below hb)
    have HB2 := Lib.hid ((But.drewN w C m).trans (But.below C hb))
    clear hb
    obtain ⟨d1, d2, d3, d4⟩ := HC2.out.step (by omega)
    have HC3 := Lib.hid d3
    have HB3 := Lib.hid (HB2.out.trans d4)
    clear d3 d4
    go_wp2_with fail
    refine (HPK.out _ _ HC3.out).mono ?_
    rintro e w3 ⟨rfl, m3, hw3⟩
    have HC4 := Lib.hid (HC3.out.drewN m3)
    have HB4 := Lib.hid (HB3.out.trans (But.drewN _ C m3))
    rw [← hw3] at HC4 HB4
    clear hw3 d1 d2
    have hw2 : IntKind.i64.wrap ((i : Int) + 1 + 1) = (i : Int) + 1 + 1 := wrap_small _ (by omega) (by omega)
    have hrange := pk_range HL.out.ok (i + 1)
    have HHX := Lib.hid (fun (W : World) (hc : CurAt W C A n c L (i + 1)) (hlt : i + 1 < n) => cur_hex W C A n c L (i + 1) hc HL.out hlt)
    have hcast : ((i + 1 : Nat) : Int) = (i : Int) + 1 := by omega
    generalize hr : pk L (i + 1) = r at *
    by_cases h1 : r = 110
    ·subst h1
     have hlt2 : i + 1 < n := by rw [← hlen]; exact pk_lt (by omega)
     have HR1 := Lib.hid (show R = .ok (10, i + 2) from HRE.out)
     obtain ⟨d1, d2, d3, d4⟩ := HC4.out.step hlt2
     rw [hcast] at d1 d3 d4
     have HC5 := Lib.hid d3
     have HB5 := Lib.hid (HB4.out.trans d4)
     clear d3 d4 HRE hr
     go_wp2_with fail
     go_ret
     rw [HR1.out]
     exact ⟨rfl, HC5.out, HB5.out⟩
    ·by_cases h2 : r = 116
     ·subst h2
      have hlt2 : i + 1 < n := by rw [← hlen]; exact pk_lt (by omega)
      have HR1 := Lib.hid (show R = .ok (9, i + 2) from HRE.out)
      obtain ⟨d1, d2, d3, d4⟩ := HC4.out.step hlt2
      rw [hcast] at d1 d3 d4
      have HC5 := Lib.hid d3
      have HB5 := Lib.hid (HB4.out.trans d4)
      clear d3 d4 HRE hr
      go_wp2_with fail
      go_ret
      rw [HR1.out]
      exact ⟨rfl, HC5.out, HB5.out⟩
     ·by_cases h3 : r = 117
      ·subst h3
       have hlt2 : i + 1 < n := by rw [← hlen]; exact pk_lt (by omega)
       have HR1 := Lib.hid (show R = hexP L (i + 1) from HRE.out)
       have HX := Lib.hid (HHX.out _ HC4.out hlt2)
       clear HRE hr HHX
       cases hx : hexP L (i + 1) with
       | error e0 =>
         obtain ⟨x, p⟩ := e0
         rw [hx] at HX
         have HR2 := Lib.hid (HR1.out.trans hx)
         clear hx
         go_wp2_with fail
         refine HX.out.mono ?_
         rintro e w5 ⟨he, hb⟩
         unfold thrown at he
         subst he
         have HB5 := Lib.hid (HB4.out.trans hb)
         clear hb
         go_wp2_with fail
         rw [HR2.out]
         exact ⟨rfl, rfl, HB5.out⟩
       | ok q =>
         obtain ⟨x, p⟩ := q
         rw [hx] at HX
         have HR2 := Lib.hid (HR1.out.trans hx)
         clear hx
         go_wp2_with fail
         refine HX.out.mono ?_
         rintro e w5 ⟨rfl, hc, hb⟩
         have HC5 := Lib.hid hc
         have HB5 := Lib.hid (HB4.out.trans hb)
         clear hb hc
         go_wp2_with fail
         go_ret
         rw [HR2.out]
         exact ⟨rfl, HC5.out, HB5.out⟩
      ·have HRE2 := Lib.hid (show R = if r < 0 ∨ alnB r = true then .error (2, i + 1) else .ok (r, i + 2) by rw [HRE.out, if_neg h1, if_neg h2, if_neg h3])
       have q1 : (r == 110) = false := by simp; exact h1
       have q2 : (r == 116) = false := by simp; exact h2
       have q3 : (r == 117) = false := by simp; exact h3
       clear HRE h1 h2 h3 HHX
       by_cases hbad : r < 0 ∨ alnB r = true
       ·have HR1 := Lib.hid (show R = .error (2, i + 1) by rw [HRE2.out, if_pos hbad])
        have d1 := HC4.out.blk.cell 1
        have hcell : w3.cell? ⟨C, 1, none⟩ = some (.int .i64 ((i : Int) + 1)) := by rw [← hcast]; exact d1
        have HF := Lib.hid (fun (W : World) => syn_fail 2 ((i : Int) + 1) W)
        rw [alnB_iff] at hbad
        clear HRE2 d1
        rcases (show r < 0 ∨ (48 ≤ r ∧ r ≤ 57) ∨ (97 ≤ r ∧ r ≤ 122) ∨ (65 ≤ r ∧ r ≤ 90) by omega) with h1 | ⟨h1, h2⟩ | ⟨h1, h2⟩ | ⟨h1, h2⟩
        all_goals
         clear hbad
         go_wp2_with fail
         refine (HF.out _).mono ?_
         rintro e w5 ⟨rfl, rfl⟩
         go_wp2_with fail
         rw [HR1.out]
         exact ⟨rfl, by rw [thrown, hcast], HB4.out⟩
       ·have HR1 := Lib.hid (show R = .ok (r, i + 2) by rw [HRE2.out, if_neg hbad])
        rw [alnB_iff] at hbad
        have hlt2 : i + 1 < n := by rw [← hlen]; exact pk_lt (by omega)
        obtain ⟨d1, d2, d3, d4⟩ := HC4.out.step hlt2
        rw [hcast] at d1 d3 d4
        have HC5 := Lib.hid d3
        have HB5 := Lib.hid (HB4.out.trans d4)
        clear d3 d4 HRE2 hr
        rcases (show (0 ≤ r ∧ r < 48) ∨ (57 < r ∧ r < 65) ∨ (90 < r ∧ r < 97) ∨ 122 < r by omega) with ⟨h1, h2⟩ | ⟨h1, h2⟩ | ⟨h1, h2⟩ | h1
        all_goals
         clear hbad
         go_wp2_with fail
         go_ret
         rw [HR1.out]
         exact ⟨rfl, HC5.out, HB5.out⟩
   ·have HR1 := Lib.hid (show R = .error (2, i) from HR0.out.symm.trans (charP_no hp h92))
    have hb92 : (pk L i != 92) = true := by simp [h92]
    clear hp
    go_enter Tryz.func130, Tryz.ntmps130
    go_wp2_with fail
    refine (HPK.out _ _ HC.out).mono ?_
    rintro e w1 ⟨rfl, m, rfl⟩
    go_wp2_with fail
    refine (HPL1.out _).mono ?_
    rintro e w2 ⟨rfl, hb⟩
    have HC2 := Lib.hid ((HC.out.drewN m).below hb)
    have HB2 := Lib.hid ((But.drewN w C m).trans (But.below C hb))
    clear hb
    have d1 := HC2.out.blk.cell 1
    go_wp2_with fail
    refine (syn_fail 2 i _).mono ?_
    rintro e w3 ⟨rfl, rfl⟩
    go_wp2_with fail
    rw [HR1.out]
    exact ⟨rfl, rfl, HB2.out⟩
end Go.Proofs.YthnhbcohfoodlaaGreatDoor

namespace Go.Proofs.YthnhbcohfoodlaaGreatDoor
open Go.RowKit
theorem assert_oops (W : World) (v : Value) : (Instr.typeAssert (.iface 126 v) 20 126 true).run Tryz.prog W = .ok (.tuple #[v, .bool true]) W := by kernel_rfl
theorem caught_idle (f : Addr) (w : World) :
 CallsD Tryz.prog 35 #[.pointer (some f)] .returning w fun e u' w' => e = .returned (.tuple #[]) ∧ u' = .returning ∧ w' = w := by
 refine callsD_of_wpS Tryz.func35 rfl fun c₀ cs hu => ?_
 apply wpS_seq
 apply wpS_region
 simp [wpOpsS, go_sem, recoverD, hu, Tryz.ntmps35, Exit.thenS]
 refine wpS_of_wp ?_
 go_wp2_with fail
 cases c₀
 simp_all [bodyPostS, results, Tryz.results35]
set_option maxRecDepth 100000 in
set_option maxHeartbeats 1600000 in
theorem caught_thrown (f : Nat) (x p a b : Int) (t : TypeId) (older : List PanicEntry) (w : World) (hf : Blk w f t #[.int .i64 a, .int .i64 b]) :
 CallsD Tryz.prog 35 #[.pointer (some ⟨f, 0, none⟩)] (.panicking ({ v := .iface 126 (.agg #[.int .i64 x, .int .i64 p]), recovered := false } :: older)) w fun e u' w' =>
  e = .returned (.tuple #[]) ∧ u' = .panicking ({ v := .iface 126 (.agg #[.int .i64 x, .int .i64 p]), recovered := true } :: older) ∧ Blk w' f t #[.int .i64 x, .int .i64 p] ∧ But w f w' := by
 have f0 := hf.frozen 0
 have f1 := hf.frozen 1
 have c0 := hf.cell 0
 have c1 := hf.cell 1
 refine callsD_of_wpS Tryz.func35 rfl fun c₀ cs hu => ?_
 apply wpS_seq
 apply wpS_region
 simp [wpOpsS, go_sem, recoverD, hu, Tryz.ntmps35, Exit.thenS]
 refine wpS_of_wp ?_
 have e (V : Value) : (#[Value.pointer (some ⟨f, 0, none⟩)] ++ (Array.replicate 14 undef).setIfInBounds 4 V) = #[.pointer (some ⟨f, 0, none⟩), undef, undef, undef, undef, V, undef, undef, undef, undef, undef, undef, undef, undef, undef] := rfl
 rw [e]
 have hlt := hf.lt
 have hta := fun (W : World) (v : Value) => assert_oops W v
 go_wp2_with fail
 have hB : Blk (((w.setCell ⟨f, 0, none⟩ (.int .i64 x)).setCell ⟨f, 1, none⟩ (.int .i64 p)).alloc (.cells #[.int .i64 x, .int .i64 p] 126)) f t #[.int .i64 x, .int .i64 p] := ((hf.put 0 _).put 1 _).alloc _
 have hS : But w f (((w.setCell ⟨f, 0, none⟩ (.int .i64 x)).setCell ⟨f, 1, none⟩ (.int .i64 p)).alloc (.cells #[.int .i64 x, .int .i64 p] 126)) := ((But.set w f 0 _).trans (But.set _ f 1 _)).trans (But.below f ((Below.refl _ _).alloc (Nat.le_refl _) _))
 simp [bodyPostS, results, Tryz.results35, hB, hS]
end Go.Proofs.YthnhbcohfoodlaaGreatDoor

namespace Go.Proofs.YthnhbcohfoodlaaGreatDoor
open Go.RowKit
def PrAt (w : World) (g gp : Nat) (cs : Array Value) (wx : World) : Prop :=
 Blk wx g 25 #[.int .i64 0, .int .i64 0] ∧ Blk wx gp 98 cs ∧ Below w.heap.size w wx
section
variable {w wx w2 : World} {g gp : Nat} {cs : Array Value}
theorem PrAt.drew (h : PrAt w g gp cs wx) : PrAt w g gp cs wx.drew := ⟨h.1, h.2.1, h.2.2.drew⟩
theorem PrAt.alloc (h : PrAt w g gp cs wx) (o : Obj) : PrAt w g gp cs (wx.alloc o) := ⟨Blk.alloc h.1 o, Blk.alloc h.2.1 o, h.2.2.alloc h.2.2.size o⟩
theorem PrAt.below (h : PrAt w g gp cs wx) (hb : Below wx.heap.size wx w2) : PrAt w g gp cs w2 := ⟨Blk.below h.1 hb h.1.lt, Blk.below h.2.1 hb h.2.1.lt, h.2.2.trans (hb.mono h.2.2.size)⟩
end
end Go.Proofs.YthnhbcohfoodlaaGreatDoor
