/- scriptref3.Walk: Char: a rune, plain or escaped; a fault stays. -/
import Derived.Test.YthnhbcohfoodlaaGreatDoorRefWkAll
import Derived.Test.YthnhbcohfoodlaaGreatDoorCurChar
namespace Go.Proofs.YthnhbcohfoodlaaGreatDoor
open Go.RowKit

/-- What Char leaves: the rune and the place behind it, or the first fault. -/
def RcPost (w : World) (C : Nat) (A : Option Addr) (n c : Nat) (L : List Int) (p : Int) (r : Rdg Int) (e : Ending) (w' : World) : Prop :=
  (match r with
  | .ok (x, j) => e = .returned (.int .i32 x) ∧ j ≤ n ∧ WkAt w' C A n c L j 0 p
  | .error (x, q) => x ≠ 0 ∧ ∃ v i, e = .returned (.int .i32 v) ∧ WkAt w' C A n c L i x q) ∧ But w C w'

set_option maxHeartbeats 1600000 in
theorem wk_char_bad (w : World) (C : Nat) (A : Option Addr) (n c : Nat) (L : List Int) (i e p : Int) (h : WkAt w C A n c L i e p) (he : e ≠ 0) :
    Calls Tryz.prog 85 #[.pointer (some ⟨C, 0, none⟩)] w fun en w' => en = .returned (.int .i32 0) ∧ WkAt w' C A n c L i e p ∧ But w C w' := by
  have HS := Lib.hid (wk_blind w C A n c L i e p 0 h he)
  clear h
  go_enter Tryz.func85, Tryz.ntmps85
  go_wp2_with fail
  refine HS.out.mono ?_
  rintro en w1 ⟨rfl, hc1, hb1⟩
  have H1 := Lib.hid hc1
  have B1 := Lib.hid hb1
  have d1 := hc1.c1
  clear hc1 hb1
  go_wp2_with fail
  refine (wk_stop_bad _ C A n c L i e p 2 i H1.out he).mono ?_
  rintro en w2 ⟨rfl, hw2⟩
  subst hw2
  go_wp2_with fail
  go_ret
  exact ⟨rfl, H1.out, B1.out⟩

/-- Behind the digits: what is left of a rune by its number. -/
theorem hex_snoc {L : List Int} {a j : Nat} (ha : a ≤ j) (hj : j < L.length) : textAt L a (j + 1) = textAt L a j ++ [pk L j] := by
  unfold textAt
  rw [show j + 1 - a = (j - a) + 1 by omega, List.take_add_one, List.getElem?_drop, show a + (j - a) = j by omega, List.getElem?_eq_getElem hj, pk_at (List.getElem?_eq_getElem hj)]
  rfl
/-- Where the digits' loop stands. -/
structure HexAt (L : List Int) (a n j : Nat) (x : Int) : Prop where
  lo : a ≤ j
  hi : j ≤ n
  run : runFrom hexB L a = runFrom hexB L j
  all : ∀ d ∈ textAt L a (min j (a + 6)), hexB d = true
  val : x = hexVal (textAt L a (min j (a + 6)))
theorem HexAt.start {L : List Int} {a n : Nat} (h : a ≤ n) : HexAt L a n a 0 := by
  have e : textAt L a (min a (a + 6)) = [] := by unfold textAt; rw [show min a (a + 6) - a = 0 by omega]; rfl
  exact ⟨Nat.le_refl _, h, rfl, by rw [e]; simp, by rw [e]; rfl⟩
theorem HexAt.small {L : List Int} {a n j : Nat} {x : Int} (h : HexAt L a n j x) : 0 ≤ x ∧ x < 16777216 := by
  rw [h.val]
  exact hexVal_small h.all (by unfold textAt; rw [List.length_take]; omega)
theorem HexAt.near {L : List Int} {a n j : Nat} {x : Int} (h : HexAt L a n j x) (hl : j < L.length) (hn : L.length = n) (hh : hexB (pk L j) = true) (h6 : j < a + 6) : HexAt L a n (j + 1) (16 * x + hexV (pk L j)) := by
  have e := hex_snoc h.lo hl
  have h0 := h.all
  have h1 := h.val
  rw [show min j (a + 6) = j by omega] at h0 h1
  refine ⟨by have := h.lo; omega, by omega, h.run.trans (runFrom_in hl hh), ?_, ?_⟩
  · rw [show min (j + 1) (a + 6) = j + 1 by omega, e]
    intro d hd
    rcases List.mem_append.1 hd with hd | hd
    · exact h0 d hd
    · rw [List.mem_singleton.1 hd]; exact hh
  · rw [show min (j + 1) (a + 6) = j + 1 by omega, e, hexVal_snoc, h1]
theorem HexAt.far {L : List Int} {a n j : Nat} {x : Int} (h : HexAt L a n j x) (hl : j < L.length) (hn : L.length = n) (hh : hexB (pk L j) = true) (h6 : ¬ j < a + 6) : HexAt L a n (j + 1) x := by
  have h0 := h.all
  have h1 := h.val
  rw [show min j (a + 6) = min (j + 1) (a + 6) by omega] at h0 h1
  exact ⟨by have := h.lo; omega, by omega, h.run.trans (runFrom_in hl hh), h0, h1⟩
theorem HexAt.done {L : List Int} {a n j : Nat} {x : Int} (h : HexAt L a n j x) (hh : hexB (pk L j) = false) : runFrom hexB L a = j := h.run.trans (runFrom_out (fun _ => hh))
theorem hexP_many {L : List Int} {i a j : Nat} (hn : needP L (i + 1) 123 = .ok a) (hr : runFrom hexB L a = j) (h : j - a < 1 ∨ 6 < j - a) : hexP L i = .error (2, a) := by
  unfold hexP
  rw [hn]
  simp only [hr]
  rw [if_pos h]
theorem hexP_open {L : List Int} {i a j : Nat} {e : Int × Nat} (hn : needP L (i + 1) 123 = .ok a) (hr : runFrom hexB L a = j) (h : ¬ (j - a < 1 ∨ 6 < j - a)) (h2 : needP L j 125 = .error e) : hexP L i = .error e := by
  unfold hexP
  rw [hn]
  simp only [hr]
  rw [if_neg h, h2]
theorem hexP_end {L : List Int} {i a j k : Nat} {x : Int} (hn : needP L (i + 1) 123 = .ok a) (hr : runFrom hexB L a = j) (h : ¬ (j - a < 1 ∨ 6 < j - a)) (h2 : needP L j 125 = .ok k) (hx : x = hexVal (textAt L a (min j (a + 6)))) : hexP L i = if 1114111 < x then .error (3, i) else .ok (x, k) := by
  unfold hexP
  rw [hn]
  simp only [hr]
  rw [if_neg h, h2, hx, show min j (a + 6) = j by omega]

set_option maxHeartbeats 6400000 in
set_option maxRecDepth 100000 in
theorem wk_char (w : World) (C : Nat) (A : Option Addr) (n c : Nat) (L : List Int) (i : Nat) (p : Int) (h : WkAt w C A n c L i 0 p) (hi : i ≤ n) (hL : RunesOk L) :
    Calls Tryz.prog 85 #[.pointer (some ⟨C, 0, none⟩)] w (RcPost w C A n c L p (charP L i)) := by
  have hs := h.size
  have hlen := h.len
  have HL := Lib.hid hL
  have HC := Lib.hid h
  have HSE := Lib.hid (fun (W : World) (k : Nat) (h : WkAt W C A n c L k 0 p) (hk : k ≤ n) => wk_sees0 W C A n c L k p h hk)
  have hw1 : IntKind.i64.wrap ((i : Int) + 1) = (i : Int) + 1 := wrap_small _ (by omega) (by omega)
  have HR := Lib.hid (show pk L i = -1 ∨ (0 ≤ pk L i ∧ pk L i ≤ 1114111) from pk_range hL i)
  have HR2 := Lib.hid (show pk L (i + 1) = -1 ∨ (0 ≤ pk L (i + 1) ∧ pk L (i + 1) ≤ 1114111) from pk_range hL (i + 1))
  have HSP := Lib.hid (fun (W : World) => ref_special (pk L i) W)
  clear h hL
  obtain ⟨R, hR⟩ : ∃ R, charP L i = R := ⟨_, rfl⟩
  rw [hR]
  have HR0 := Lib.hid hR
  clear hR
  cases hp : plainB (pk L i) with
  | true =>
    have hlt : i < L.length := pk_lt (fun e => by rw [e] at hp; exact absurd hp (by decide))
    have HR1 := Lib.hid (show R = .ok (pk L i, i + 1) from HR0.out.symm.trans (charP_plain hp))
    have h0 : 0 ≤ pk L i := by
      rcases HR.out with h | h
      · rw [h] at hp; exact absurd hp (by decide)
      · exact h.1
    have HSP1 := Lib.hid (fun (W : World) => show Calls Tryz.prog 83 #[.int .i32 (pk L i)] W fun e w' => e = .returned (.bool false) ∧ Below W.heap.size W w' by have := HSP.out W; rwa [sp_plain h0, hp] at this)
    clear hp
    go_enter Tryz.func85, Tryz.ntmps85
    go_wp2_with fail
    refine (HSE.out _ _ HC.out hi).mono ?_
    rintro e w1 ⟨rfl, m, rfl⟩
    go_wp2_with fail
    refine (HSP1.out _).mono ?_
    rintro e w2 ⟨rfl, hb⟩
    have HC2 := Lib.hid ((HC.out.drewN m).keep hb)
    have HB2 := Lib.hid ((But.drewN w C m).trans (But.below C hb))
    clear hb
    obtain ⟨d1, d2, d3, d4⟩ := HC2.out.step
    have HC3 := Lib.hid d3
    have HB3 := Lib.hid (HB2.out.trans d4)
    clear d3 d4
    go_wp2_with fail
    go_ret
    rw [HR1.out]
    exact ⟨⟨rfl, by omega, HC3.out⟩, HB3.out⟩
  | false =>
    by_cases h92 : pk L i = 92
    · have hlt : i < L.length := pk_lt (by omega)
      have HRE := Lib.hid (HR0.out.symm.trans (charP_esc h92))
      have HSE1 := Lib.hid (fun (W : World) (h : WkAt W C A n c L i 0 p) => show Calls Tryz.prog 61 #[.pointer (some ⟨C, 0, none⟩), .int .i64 0] W fun e w' => e = .returned (.int .i32 92) ∧ ∃ m, w' = W.drewN m by have := HSE.out W i h hi; rwa [h92] at this)
      have HSP1 := Lib.hid (fun (W : World) => show Calls Tryz.prog 83 #[.int .i32 92] W fun e w' => e = .returned (.bool true) ∧ Below W.heap.size W w' from ref_special 92 W)
      clear hp h92
      go_enter Tryz.func85, Tryz.ntmps85
      go_wp2_with fail
      refine (HSE1.out _ HC.out).mono ?_
      rintro e w1 ⟨rfl, m, rfl⟩
      go_wp2_with fail
      refine (HSP1.out _).mono ?_
      rintro e w2 ⟨rfl, hb⟩
      have HC2 := Lib.hid ((HC.out.drewN m).keep hb)
      have HB2 := Lib.hid ((But.drewN w C m).trans (But.below C hb))
      clear hb
      obtain ⟨d1, d2, d3, d4⟩ := HC2.out.step
      have HC3 := Lib.hid (show WkAt (w2.setCell ⟨C, 1, none⟩ (.int .i64 ((i : Int) + 1))) C A n c L ((i + 1 : Nat) : Int) 0 p by rw [show ((i + 1 : Nat) : Int) = (i : Int) + 1 by omega]; exact d3)
      have HB3 := Lib.hid (HB2.out.trans d4)
      clear d3 d4
      go_wp2_with fail
      refine (HSE.out _ _ HC3.out (by omega)).mono ?_
      rintro e w3 ⟨rfl, m3, hw3⟩
      have HC4 := Lib.hid (HC3.out.drewN m3)
      have HB4 := Lib.hid (HB3.out.trans (But.drewN _ C m3))
      rw [← hw3] at HC4 HB4
      clear hw3 d1 d2
      have hw2 : IntKind.i64.wrap ((i : Int) + 1 + 1) = (i : Int) + 1 + 1 := wrap_small _ (by omega) (by omega)
      have hcast : ((i + 1 : Nat) : Int) = (i : Int) + 1 := by omega
      have c1 : w3.cell? ⟨C, 1, none⟩ = some (.int .i64 ((i : Int) + 1)) := by rw [← hcast]; exact HC4.out.c1
      have f1 := HC4.out.fz 1
      have HC5 := Lib.hid (show WkAt (w3.setCell ⟨C, 1, none⟩ (.int .i64 ((i : Int) + 1 + 1))) C A n c L ((i + 2 : Nat) : Int) 0 p by rw [show ((i + 2 : Nat) : Int) = (i : Int) + 1 + 1 by omega]; exact HC4.out.put1 _)
      have HB5 := Lib.hid (HB4.out.trans (But.set w3 C 1 (.int .i64 ((i : Int) + 1 + 1))))
      generalize hr : pk L (i + 1) = r at *
      by_cases h1 : r = 117
      · subst h1
        have hlt2 : i + 1 < n := by rw [← hlen]; exact pk_lt (by omega)
        have HR1 := Lib.hid (show R = hexP L (i + 1) from HRE.out)
        have HM := Lib.hid (wk_must _ C A n c L (i + 2) p 123 HC5.out (by omega) (by decide))
        clear HRE hr HR2
        cases hn : needP L (i + 2) 123 with
        | error e0 =>
          obtain ⟨x, q⟩ := e0
          have HR2 := Lib.hid (HR1.out.trans (hexP_e1 hn))
          rw [hn] at HM
          clear hn
          go_wp2_with fail
          refine HM.out.mono ?_
          rintro e w6 ⟨rfl, ⟨hx0, i6, hc6⟩, hb6⟩
          have HC6 := Lib.hid hc6
          have HB6 := Lib.hid (HB5.out.trans hb6)
          have HX := Lib.hid hx0
          clear hc6 hb6 hx0
          have g1 := HC6.out.c1
          have hwz : IntKind.i64.wrap (i6 - i6) = 0 := by rw [Int.sub_self]; rfl
          have HS6 := Lib.hid (wk_blind w6 C A n c L i6 x q 0 HC6.out HX.out)
          have HD6 := Lib.hid (fun (W : World) => show Calls Tryz.prog 138 #[.int .i32 (-1)] W fun e w' => e = .returned (.int .i64 (-1)) ∧ w' = W from ref_digit (-1) W (by decide) (by decide))
          go_wp2_with fail
          go_loopw [6] (fun s wr => s = .int .i64 0 ∧ wr = w6) (fun _ _ => 0)
          case atStart => exact ⟨rfl, rfl⟩
          case round =>
            obtain ⟨rfl, rfl⟩ := hrel
            go_wp2_with fail
            refine HS6.out.mono ?_
            rintro e w7 ⟨rfl, hc7, hb7⟩
            have HC7 := Lib.hid hc7
            have HB7 := Lib.hid (HB6.out.trans hb7)
            have g7 := hc7.c1
            clear hc7 hb7
            go_wp2_with fail
            refine (HD6.out _).mono ?_
            rintro e w8 ⟨rfl, hw8⟩
            subst hw8
            go_wp2_with fail
            refine (wk_stop_bad _ C A n c L i6 x q 2 i6 HC7.out HX.out).mono ?_
            rintro e w8 ⟨rfl, hw8⟩
            subst hw8
            go_wp2_with fail
            refine (wk_must_bad _ C A n c L i6 x q 125 HC7.out HX.out (by decide)).mono ?_
            rintro e w8 ⟨rfl, hc8, hb8⟩
            have HC8 := Lib.hid hc8
            have HB8 := Lib.hid (HB7.out.trans hb8)
            clear hc8 hb8
            go_wp2_with fail
            go_ret
            rw [HR2.out]
            exact ⟨⟨HX.out, _, _, rfl, HC8.out⟩, HB8.out⟩
        | ok a =>
          have HN := Lib.hid hn
          rw [hn] at HM
          clear hn
          go_wp2_with fail
          refine HM.out.mono ?_
          rintro e w6 ⟨rfl, ⟨ha, hc6⟩, hb6⟩
          have HC6 := Lib.hid hc6
          have HB6 := Lib.hid (HB5.out.trans hb6)
          clear hc6 hb6
          have g1 := HC6.out.c1
          go_wp2_with fail
          go_loopw [6] (fun s wr => ∃ (j : Nat) (x : Int), s = .int .i64 x ∧ HexAt L a n j x ∧ WkAt wr C A n c L j 0 p ∧ But w C wr) (fun _ wr => n - (match wr.cell? ⟨C, 1, none⟩ with | some (.int _ j) => j.toNat | _ => 0))
          case atStart => exact ⟨a, 0, rfl, HexAt.start ha, HC6.out, HB6.out⟩
          case round =>
            obtain ⟨j, x, rfl, hx, hcj, hbj⟩ := hrel
            obtain ⟨hx0, hx1⟩ := hx.small
            have hja := hx.lo
            have hjn := hx.hi
            have HX := Lib.hid hx
            have HCJ := Lib.hid hcj
            have HBJ := Lib.hid hbj
            have HM0 := Lib.hid hcj.c1
            have hrj := pk_range HL.out j
            have HDJ := Lib.hid (fun (W : World) => ref_digit (pk L j) W (by omega) (by omega))
            have hwj : IntKind.i64.wrap ((j : Int) - (a : Int)) = (j : Int) - (a : Int) := wrap_small _ (by omega) (by omega)
            have hwj1 : IntKind.i64.wrap ((j : Int) + 1) = (j : Int) + 1 := wrap_small _ (by omega) (by omega)
            clear hx hcj hbj hrj
            cases hh : hexB (pk L j) with
            | true =>
              have hltj : j < L.length := pk_lt (fun e => by rw [e] at hh; exact absurd hh (by decide))
              obtain ⟨v1, v2, v3⟩ := digV_hex hh
              have HNEAR := Lib.hid (fun h6 => HX.out.near hltj hlen hh h6)
              have HFAR := Lib.hid (fun h6 => HX.out.far hltj hlen hh h6)
              rw [v1] at HDJ
              generalize hexV (pk L j) = v at *
              clear hh v1
              go_wp2_with fail
              refine (HSE.out _ _ HCJ.out hjn).mono ?_
              rintro e w7 ⟨rfl, m7, hw7⟩
              have HC7 := Lib.hid (HCJ.out.drewN m7)
              have HB7 := Lib.hid (HBJ.out.trans (But.drewN _ C m7))
              rw [← hw7] at HC7 HB7
              clear hw7
              go_wp2_with fail
              refine (HDJ.out _).mono ?_
              rintro e w8 ⟨rfl, hw8⟩
              subst hw8
              have k1 := HC7.out.c1
              have k2 := HC7.out.fz 1
              by_cases h6 : j < a + 6
              · have hq : decide ((j : Int) - (a : Int) < 6) = true := decide_eq_true (by omega)
                have HNX := Lib.hid (HNEAR.out h6)
                go_wp2_with fail
                refine (HSE.out _ _ HC7.out hjn).mono ?_
                rintro e w9 ⟨rfl, m9, hw9⟩
                have HC9 := Lib.hid (HC7.out.drewN m9)
                have HB9 := Lib.hid (HB7.out.trans (But.drewN _ C m9))
                rw [← hw9] at HC9 HB9
                clear hw9
                go_wp2_with fail
                refine (HDJ.out _).mono ?_
                rintro e w10 ⟨rfl, hw10⟩
                subst hw10
                have l1 := HC9.out.c1
                have l2 := HC9.out.fz 1
                have HC10 := Lib.hid (show WkAt (w10.setCell ⟨C, 1, none⟩ (.int .i64 ((j : Int) + 1))) C A n c L ((j + 1 : Nat) : Int) 0 p by rw [show ((j + 1 : Nat) : Int) = (j : Int) + 1 by omega]; exact HC9.out.put1 _)
                have HB10 := Lib.hid (HB9.out.trans (But.set w10 C 1 (.int .i64 ((j : Int) + 1))))
                go_wp2_with fail
                refine ⟨⟨j + 1, _, rfl, HNX.out, HC10.out, HB10.out⟩, ?_⟩
                rw [HC10.out.c1, HM0.out]
                simp only [Int.toNat_natCast]
                omega
              · have hq : decide ((j : Int) - (a : Int) < 6) = false := decide_eq_false (by omega)
                have HNX := Lib.hid (HFAR.out h6)
                have HC10 := Lib.hid (show WkAt (w8.setCell ⟨C, 1, none⟩ (.int .i64 ((j : Int) + 1))) C A n c L ((j + 1 : Nat) : Int) 0 p by rw [show ((j + 1 : Nat) : Int) = (j : Int) + 1 by omega]; exact HC7.out.put1 _)
                have HB10 := Lib.hid (HB7.out.trans (But.set w8 C 1 (.int .i64 ((j : Int) + 1))))
                go_wp2_with fail
                refine ⟨⟨j + 1, _, rfl, HNX.out, HC10.out, HB10.out⟩, ?_⟩
                rw [HC10.out.c1, HM0.out]
                simp only [Int.toNat_natCast]
                omega
            | false =>
              have hrun := HX.out.done hh
              rw [digV_no hh] at HDJ
              have HRUN := Lib.hid hrun
              clear hh hrun
              have HMU := Lib.hid (fun (W : World) (h : WkAt W C A n c L j 0 p) => wk_must W C A n c L j p 125 h hjn (by decide))
              go_wp2_with fail
              refine (HSE.out _ _ HCJ.out hjn).mono ?_
              rintro e w7 ⟨rfl, m7, hw7⟩
              have HC7 := Lib.hid (HCJ.out.drewN m7)
              have HB7 := Lib.hid (HBJ.out.trans (But.drewN _ C m7))
              rw [← hw7] at HC7 HB7
              clear hw7
              go_wp2_with fail
              refine (HDJ.out _).mono ?_
              rintro e w8 ⟨rfl, hw8⟩
              subst hw8
              have k1 := HC7.out.c1
              by_cases hbad : j - a < 1 ∨ 6 < j - a
              · have HRE := Lib.hid (HR1.out.trans (hexP_many HN.out HRUN.out hbad))
                have HST := Lib.hid (wk_stop w8 C A n c L j p 2 a HC7.out)
                rcases (show j = a ∨ a + 6 < j by omega) with h0 | h0
                all_goals
                  clear hbad
                  go_wp2_with fail
                  refine HST.out.mono ?_
                  rintro e w9 ⟨rfl, hc9, hb9⟩
                  have HC9 := Lib.hid hc9
                  have HB9 := Lib.hid (HB7.out.trans hb9)
                  clear hc9 hb9
                  go_wp2_with fail
                  refine (wk_must_bad _ C A n c L j 2 a 125 HC9.out (by decide) (by decide)).mono ?_
                  rintro e w10 ⟨rfl, hc10, hb10⟩
                  have HC9 := Lib.hid hc10
                  have HB9 := Lib.hid (HB9.out.trans hb10)
                  clear hc10 hb10
                  by_cases hbig : 1114111 < x
                  · go_wp2_with fail
                    refine (wk_stop_bad _ C A n c L j 2 a 3 _ HC9.out (by decide)).mono ?_
                    rintro e w10 ⟨rfl, hw10⟩
                    subst hw10
                    go_wp2_with fail
                    go_ret
                    rw [HRE.out]
                    exact ⟨⟨by decide, _, _, rfl, HC9.out⟩, HB9.out⟩
                  · go_wp2_with fail
                    go_ret
                    rw [HRE.out]
                    exact ⟨⟨by decide, _, _, rfl, HC9.out⟩, HB9.out⟩
              · have hj1 : a + 1 ≤ j := by omega
                have hj2 : j ≤ a + 6 := by omega
                cases hn2 : needP L j 125 with
                | error e0 =>
                  obtain ⟨y, q⟩ := e0
                  have HRE := Lib.hid (HR1.out.trans (hexP_open HN.out HRUN.out hbad hn2))
                  have HM7 := Lib.hid (HMU.out w8 HC7.out)
                  rw [hn2] at HM7
                  clear hn2 hbad
                  go_wp2_with fail
                  refine HM7.out.mono ?_
                  rintro e w9 ⟨rfl, ⟨hy, i9, hc9⟩, hb9⟩
                  have HC9 := Lib.hid hc9
                  have HB9 := Lib.hid (HB7.out.trans hb9)
                  have HY := Lib.hid hy
                  clear hc9 hb9 hy
                  by_cases hbig : 1114111 < x
                  · go_wp2_with fail
                    refine (wk_stop_bad _ C A n c L i9 y q 3 _ HC9.out HY.out).mono ?_
                    rintro e w10 ⟨rfl, hw10⟩
                    subst hw10
                    go_wp2_with fail
                    go_ret
                    rw [HRE.out]
                    exact ⟨⟨HY.out, _, _, rfl, HC9.out⟩, HB9.out⟩
                  · go_wp2_with fail
                    go_ret
                    rw [HRE.out]
                    exact ⟨⟨HY.out, _, _, rfl, HC9.out⟩, HB9.out⟩
                | ok k =>
                  have HRE := Lib.hid (HR1.out.trans (hexP_end HN.out HRUN.out hbad hn2 HX.out.val))
                  have HM7 := Lib.hid (HMU.out w8 HC7.out)
                  rw [hn2] at HM7
                  clear hn2 hbad
                  go_wp2_with fail
                  refine HM7.out.mono ?_
                  rintro e w9 ⟨rfl, ⟨hk, hc9⟩, hb9⟩
                  have HC9 := Lib.hid hc9
                  have HB9 := Lib.hid (HB7.out.trans hb9)
                  clear hc9 hb9
                  by_cases hbig : 1114111 < x
                  · rw [if_pos hbig] at HRE
                    have HST := Lib.hid (fun (q : Int) => wk_stop w9 C A n c L k p 3 q HC9.out)
                    go_wp2_with fail
                    refine (HST.out _).mono ?_
                    rintro e w10 ⟨rfl, hc10, hb10⟩
                    have HC10 := Lib.hid hc10
                    have HB10 := Lib.hid (HB9.out.trans hb10)
                    clear hc10 hb10
                    go_wp2_with fail
                    go_ret
                    rw [HRE.out]
                    exact ⟨⟨by decide, _, _, rfl, by rw [hcast]; exact HC10.out⟩, HB10.out⟩
                  · rw [if_neg hbig] at HRE
                    go_wp2_with fail
                    go_ret
                    rw [HRE.out]
                    exact ⟨⟨rfl, hk, HC9.out⟩, HB9.out⟩
      · have HAL := Lib.hid (fun (W : World) => ref_alnum r W)
        have q0 : (r == 117) = false := by rw [beq_eq_false_iff_ne]; exact h1
        by_cases h2 : r = 110
        · subst h2
          have hlt2 : i + 1 < n := by rw [← hlen]; exact pk_lt (by omega)
          have HR1 := Lib.hid (show R = .ok (10, i + 2) from HRE.out)
          clear HRE hr
          go_wp2_with fail
          go_ret
          rw [HR1.out]
          exact ⟨⟨rfl, by omega, HC5.out⟩, HB5.out⟩
        · by_cases h3 : r = 116
          · subst h3
            have hlt2 : i + 1 < n := by rw [← hlen]; exact pk_lt (by omega)
            have HR1 := Lib.hid (show R = .ok (9, i + 2) from HRE.out)
            clear HRE hr
            go_wp2_with fail
            go_ret
            rw [HR1.out]
            exact ⟨⟨rfl, by omega, HC5.out⟩, HB5.out⟩
          · have HRE2 := Lib.hid (show R = if r < 0 ∨ alnB r = true then .error (2, i + 1) else .ok (r, i + 2) by rw [HRE.out, if_neg h2, if_neg h3, if_neg h1])
            have q1 : (r == 110) = false := by rw [beq_eq_false_iff_ne]; exact h2
            have q2 : (r == 116) = false := by rw [beq_eq_false_iff_ne]; exact h3
            have HST := Lib.hid (wk_stop w3 C A n c L ((i + 1 : Nat) : Int) p 2 ((i : Int) + 1) HC4.out)
            clear HRE h1 h2 h3
            by_cases h0 : r < 0
            · have HR1 := Lib.hid (show R = .error (2, i + 1) by rw [HRE2.out, if_pos (.inl h0)])
              clear HRE2
              go_wp2_with fail
              refine HST.out.mono ?_
              rintro e w5 ⟨rfl, hc5, hb5⟩
              have HC6 := Lib.hid hc5
              have HB6 := Lib.hid (HB4.out.trans hb5)
              clear hc5 hb5
              go_wp2_with fail
              go_ret
              rw [HR1.out]
              exact ⟨⟨by decide, _, _, rfl, by rw [hcast]; rw [hcast] at HC6; exact HC6.out⟩, HB6.out⟩
            · cases hal : alnB r with
              | true =>
                have HR1 := Lib.hid (show R = .error (2, i + 1) by rw [HRE2.out, if_pos (.inr hal)])
                rw [hal] at HAL
                clear HRE2 hal
                go_wp2_with fail
                refine (HAL.out _).mono ?_
                rintro e w4 ⟨rfl, hw4⟩
                subst hw4
                go_wp2_with fail
                refine HST.out.mono ?_
                rintro e w5 ⟨rfl, hc5, hb5⟩
                have HC6 := Lib.hid hc5
                have HB6 := Lib.hid (HB4.out.trans hb5)
                clear hc5 hb5
                go_wp2_with fail
                go_ret
                rw [HR1.out]
                exact ⟨⟨by decide, _, _, rfl, by rw [hcast]; rw [hcast] at HC6; exact HC6.out⟩, HB6.out⟩
              | false =>
                have HR1 := Lib.hid (show R = .ok (r, i + 2) by rw [HRE2.out, if_neg (by rw [hal]; simp; omega)])
                rw [hal] at HAL
                have hlt2 : i + 1 < n := by rw [← hlen]; exact pk_lt (by omega)
                clear HRE2 hal hr
                go_wp2_with fail
                refine (HAL.out _).mono ?_
                rintro e w4 ⟨rfl, hw4⟩
                subst hw4
                go_wp2_with fail
                go_ret
                rw [HR1.out]
                exact ⟨⟨rfl, by omega, HC5.out⟩, HB5.out⟩
    · have HR1 := Lib.hid (show R = .error (2, i) from HR0.out.symm.trans (charP_no hp h92))
      have q1 : (pk L i == 92) = false := by rw [beq_eq_false_iff_ne]; exact h92
      have q2 : (pk L i != 92) = true := by rw [bne, q1]; rfl
      have HST := Lib.hid (fun (W : World) (h : WkAt W C A n c L i 0 p) => wk_stop W C A n c L i p 2 i h)
      rcases (show pk L i < 0 ∨ 0 ≤ pk L i by omega) with h0 | h0
      · clear hp h92
        go_enter Tryz.func85, Tryz.ntmps85
        go_wp2_with fail
        refine (HSE.out _ _ HC.out hi).mono ?_
        rintro e w1 ⟨rfl, m, rfl⟩
        have HC1 := Lib.hid (HC.out.drewN m)
        have d1 := HC1.out.c1
        go_wp2_with fail
        refine (HST.out _ HC1.out).mono ?_
        rintro e w3 ⟨rfl, hc3, hb3⟩
        have HC3 := Lib.hid hc3
        have HB3 := Lib.hid ((But.drewN w C m).trans hb3)
        clear hc3 hb3
        go_wp2_with fail
        go_ret
        rw [HR1.out]
        exact ⟨⟨by decide, _, _, rfl, HC3.out⟩, HB3.out⟩
      · have HSP1 := Lib.hid (fun (W : World) => show Calls Tryz.prog 83 #[.int .i32 (pk L i)] W fun e w' => e = .returned (.bool true) ∧ Below W.heap.size W w' by have := HSP.out W; rwa [sp_plain h0, hp] at this)
        clear hp h92
        go_enter Tryz.func85, Tryz.ntmps85
        go_wp2_with fail
        refine (HSE.out _ _ HC.out hi).mono ?_
        rintro e w1 ⟨rfl, m, rfl⟩
        go_wp2_with fail
        refine (HSP1.out _).mono ?_
        rintro e w2 ⟨rfl, hb⟩
        have HC2 := Lib.hid ((HC.out.drewN m).keep hb)
        have HB2 := Lib.hid ((But.drewN w C m).trans (But.below C hb))
        clear hb
        have d1 := HC2.out.c1
        go_wp2_with fail
        refine (HST.out _ HC2.out).mono ?_
        rintro e w3 ⟨rfl, hc3, hb3⟩
        have HC3 := Lib.hid hc3
        have HB3 := Lib.hid (HB2.out.trans hb3)
        clear hc3 hb3
        go_wp2_with fail
        go_ret
        rw [HR1.out]
        exact ⟨⟨by decide, _, _, rfl, HC3.out⟩, HB3.out⟩

end Go.Proofs.YthnhbcohfoodlaaGreatDoor
