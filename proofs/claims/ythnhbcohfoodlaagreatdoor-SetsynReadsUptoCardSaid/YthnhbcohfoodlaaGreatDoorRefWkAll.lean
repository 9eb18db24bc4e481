/- scriptref3.Walk, the document's walk over runes: Good, Stop, Sees, Blanks, Must; a first fault stays. -/
import Derived.Test.YthnhbcohfoodlaaGreatDoorSynP
import Derived.Test.YthnhbcohfoodlaaGreatDoorEdgesBoth
import Derived.Test.YthnhbcohfoodlaaGreatDoorUtf
import Derived.WalkMore
namespace Go.Proofs.YthnhbcohfoodlaaGreatDoor
open Go.RowKit

/-- A walk over the runes L, at i; e, p: the first fault (0, 0: none). -/
structure WkAt (w : World) (C : Nat) (A : Option Addr) (n c : Nat) (L : List Int) (i e p : Int) : Prop where
  blk : ∃ t, Blk w C t #[.slice A n c, .int .i64 i, .int .i64 e, .int .i64 p]
  row : RdX w (fun b => b ≠ C) 1 A n (runeCells L)
  size : n ≤ 4611686018427387904
  cap : n ≤ c
section
variable {w w' : World} {C : Nat} {A : Option Addr} {n c : Nat} {L : List Int} {i e p : Int}
theorem WkAt.len (h : WkAt w C A n c L i e p) : L.length = n := by
  have := h.row.1; rw [runeCells_length] at this; omega
theorem WkAt.lt (h : WkAt w C A n c L i e p) : C < w.heap.size := let ⟨_, hb⟩ := h.blk; hb.lt
theorem WkAt.c0 (h : WkAt w C A n c L i e p) : w.cell? ⟨C, 0, none⟩ = some (.slice A n c) := let ⟨_, hb⟩ := h.blk; hb.cell 0
theorem WkAt.c1 (h : WkAt w C A n c L i e p) : w.cell? ⟨C, 1, none⟩ = some (.int .i64 i) := let ⟨_, hb⟩ := h.blk; hb.cell 1
theorem WkAt.c2 (h : WkAt w C A n c L i e p) : w.cell? ⟨C, 2, none⟩ = some (.int .i64 e) := let ⟨_, hb⟩ := h.blk; hb.cell 2
theorem WkAt.c3 (h : WkAt w C A n c L i e p) : w.cell? ⟨C, 3, none⟩ = some (.int .i64 p) := let ⟨_, hb⟩ := h.blk; hb.cell 3
theorem WkAt.fz (h : WkAt w C A n c L i e p) (k : Nat) : w.frozen? ⟨C, k, none⟩ = false := let ⟨_, hb⟩ := h.blk; hb.frozen k
theorem WkAt.keep (h : WkAt w C A n c L i e p) (hb : Below w.heap.size w w') : WkAt w' C A n c L i e p := let ⟨t, hk⟩ := h.blk; ⟨⟨t, hk.below hb hk.lt⟩, h.row.keep (Keeps.any hb), h.size, h.cap⟩
theorem WkAt.drewN (h : WkAt w C A n c L i e p) (k : Nat) : WkAt (w.drewN k) C A n c L i e p := h.keep (below_drewN (Below.refl _ _) k)
theorem WkAt.row_put (h : WkAt w C A n c L i e p) (k : Nat) (u : Value) : RdX (w.setCell ⟨C, k, none⟩ u) (fun b => b ≠ C) 1 A n (runeCells L) :=
  h.row.keep ((But.set w C k u).keeps (fun _ h => h) (fun _ h _ => h))
theorem WkAt.put1 (h : WkAt w C A n c L i e p) (j : Int) : WkAt (w.setCell ⟨C, 1, none⟩ (.int .i64 j)) C A n c L j e p := let ⟨t, hk⟩ := h.blk; ⟨⟨t, hk.put 1 _⟩, h.row_put 1 _, h.size, h.cap⟩
theorem WkAt.put2 (h : WkAt w C A n c L i e p) (j : Int) : WkAt (w.setCell ⟨C, 2, none⟩ (.int .i64 j)) C A n c L i j p := let ⟨t, hk⟩ := h.blk; ⟨⟨t, hk.put 2 _⟩, h.row_put 2 _, h.size, h.cap⟩
theorem WkAt.put3 (h : WkAt w C A n c L i e p) (j : Int) : WkAt (w.setCell ⟨C, 3, none⟩ (.int .i64 j)) C A n c L i e j := let ⟨t, hk⟩ := h.blk; ⟨⟨t, hk.put 3 _⟩, h.row_put 3 _, h.size, h.cap⟩
end
/-- The walk goes on by one, as the text does it. -/
theorem WkAt.step {w : World} {C : Nat} {A : Option Addr} {n c : Nat} {L : List Int} {i e p : Int} (h : WkAt w C A n c L i e p) :
    w.cell? ⟨C, 1, none⟩ = some (.int .i64 i) ∧ w.frozen? ⟨C, 1, none⟩ = false ∧ WkAt (w.setCell ⟨C, 1, none⟩ (.int .i64 (i + 1))) C A n c L (i + 1) e p ∧ But w C (w.setCell ⟨C, 1, none⟩ (.int .i64 (i + 1))) := ⟨h.c1, h.fz 1, h.put1 _, But.set w C 1 _⟩

theorem wk_good (w : World) (C : Nat) (A : Option Addr) (n c : Nat) (L : List Int) (i e p : Int) (h : WkAt w C A n c L i e p) :
    Calls Tryz.prog 43 #[.pointer (some ⟨C, 0, none⟩)] w fun en w' => en = .returned (.bool (decide (e = 0))) ∧ w' = w := by
  have c2 := h.c2
  clear h
  go_enter Tryz.func43, Tryz.ntmps43
  go_wp2_with fail
  go_ret
  exact ⟨ret_bool (by first | rfl | (rw [Bool.eq_iff_iff]; simp)), rfl⟩
theorem wk_good_yes (w : World) (C : Nat) (A : Option Addr) (n c : Nat) (L : List Int) (i p : Int) (h : WkAt w C A n c L i 0 p) :
    Calls Tryz.prog 43 #[.pointer (some ⟨C, 0, none⟩)] w fun en w' => en = .returned (.bool true) ∧ w' = w := wk_good w C A n c L i 0 p h
theorem wk_good_no (w : World) (C : Nat) (A : Option Addr) (n c : Nat) (L : List Int) (i e p : Int) (h : WkAt w C A n c L i e p) (he : e ≠ 0) :
    Calls Tryz.prog 43 #[.pointer (some ⟨C, 0, none⟩)] w fun en w' => en = .returned (.bool false) ∧ w' = w := by
  have := wk_good w C A n c L i e p h
  rwa [decide_eq_false he] at this

set_option maxHeartbeats 1600000 in
theorem wk_stop (w : World) (C : Nat) (A : Option Addr) (n c : Nat) (L : List Int) (i p x q : Int) (h : WkAt w C A n c L i 0 p) :
    Calls Tryz.prog 44 #[.pointer (some ⟨C, 0, none⟩), .int .i64 x, .int .i64 q] w fun en w' => en = .returned (.tuple #[]) ∧ WkAt w' C A n c L i x q ∧ But w C w' := by
  have HG := Lib.hid (wk_good_yes w C A n c L i p h)
  have f2 := h.fz 2
  have k2 := h.c2
  have HK3 := Lib.hid ((h.put2 x).c3)
  have HF3 := Lib.hid ((h.put2 x).fz 3)
  have HW := Lib.hid ((h.put2 x).put3 q)
  clear h
  go_enter Tryz.func44, Tryz.ntmps44
  go_wp2_with fail
  refine HG.out.mono ?_
  rintro e w1 ⟨rfl, rfl⟩
  have f3 := HF3.out
  have k3 := HK3.out
  go_wp2_with fail
  go_end0
  exact ⟨rfl, HW.out, (But.set _ _ _ _).trans (But.set _ _ _ _)⟩
set_option maxHeartbeats 1600000 in
theorem wk_stop_bad (w : World) (C : Nat) (A : Option Addr) (n c : Nat) (L : List Int) (i e p x q : Int) (h : WkAt w C A n c L i e p) (he : e ≠ 0) :
    Calls Tryz.prog 44 #[.pointer (some ⟨C, 0, none⟩), .int .i64 x, .int .i64 q] w fun en w' => en = .returned (.tuple #[]) ∧ w' = w := by
  have HG := Lib.hid (wk_good_no w C A n c L i e p h he)
  clear h
  go_enter Tryz.func44, Tryz.ntmps44
  go_wp2_with fail
  refine HG.out.mono ?_
  rintro e w1 ⟨rfl, rfl⟩
  go_wp2_with fail
  go_end0
  exact ⟨rfl, rfl⟩

set_option maxHeartbeats 1600000 in
theorem wk_sees (w : World) (C : Nat) (A : Option Addr) (n c : Nat) (L : List Int) (i k : Nat) (p : Int) (h : WkAt w C A n c L i 0 p) (hi : i ≤ n) (hk : k ≤ 1000) :
    Calls Tryz.prog 61 #[.pointer (some ⟨C, 0, none⟩), .int .i64 k] w fun e w' => e = .returned (.int .i32 (pk L (i + k))) ∧ ∃ m, w' = w.drewN m := by
  have HG := Lib.hid (fun k => wk_good_yes (w.drewN k) C A n c L i p (h.drewN k))
  have c0 := h.c0
  have c1 := h.c1
  have hl := h.len
  have hs := h.size
  have hw1 : IntKind.i64.wrap ((i : Int) + k) = ((i + k : Nat) : Int) := by rw [wrap_small _ (by omega) (by omega)]; omega
  by_cases hlt : i + k < n
  · obtain ⟨x, hx⟩ : ∃ x, L[i + k]? = some x := ⟨_, List.getElem?_eq_getElem (by omega)⟩
    rw [pk_at hx]
    obtain ⟨b, o, rfl, _, _, hc⟩ := h.row.2 (by omega)
    have d0 : w.cell? ⟨b, o + (i + k), none⟩ = some (.int .i32 x) := hc _ _ (by simp [runeCells, hx])
    have hg : decide ((n : Int) ≤ ((i + k : Nat) : Int)) = false := decide_eq_false (by omega)
    have hk0 : (0 : Int) ≤ ((i + k : Nat) : Int) := by omega
    have hk1 : ((i + k : Nat) : Int) < (n : Int) := by omega
    clear hc h hx hl
    go_enter Tryz.func61, Tryz.ntmps61
    go_wp2_with fail
    go_quiet (first | (go_at_call 43; exact Calls.quiet_of_same (HG.out _)))
    go_wp2_with fail
    go_quiet (fail)
    go_wp2_with fail
    go_ret
    exact ⟨rfl, _, by rw [World.drewN_drewN]⟩
  · rw [pk_end (by omega)]
    have hg : decide ((n : Int) ≤ ((i + k : Nat) : Int)) = true := decide_eq_true (by omega)
    clear h hl
    go_enter Tryz.func61, Tryz.ntmps61
    go_wp2_with fail
    go_quiet (first | (go_at_call 43; exact Calls.quiet_of_same (HG.out _)))
    go_wp2_with fail
    go_ret
    exact ⟨rfl, _, rfl⟩
theorem wk_sees_bad (w : World) (C : Nat) (A : Option Addr) (n c : Nat) (L : List Int) (i e p k : Int) (h : WkAt w C A n c L i e p) (he : e ≠ 0) :
    Calls Tryz.prog 61 #[.pointer (some ⟨C, 0, none⟩), .int .i64 k] w fun e w' => e = .returned (.int .i32 (-1)) ∧ ∃ m, w' = w.drewN m := by
  have HG := Lib.hid (fun k => wk_good_no (w.drewN k) C A n c L i e p (h.drewN k) he)
  clear h
  go_enter Tryz.func61, Tryz.ntmps61
  go_wp2_with fail
  go_quiet (first | (go_at_call 43; exact Calls.quiet_of_same (HG.out _)))
  go_wp2_with fail
  go_ret
  exact ⟨rfl, _, rfl⟩
theorem wk_sees0 (w : World) (C : Nat) (A : Option Addr) (n c : Nat) (L : List Int) (i : Nat) (p : Int) (h : WkAt w C A n c L i 0 p) (hi : i ≤ n) :
    Calls Tryz.prog 61 #[.pointer (some ⟨C, 0, none⟩), .int .i64 0] w fun e w' => e = .returned (.int .i32 (pk L i)) ∧ ∃ m, w' = w.drewN m := wk_sees w C A n c L i 0 p h hi (Nat.zero_le _)
theorem wk_sees1 (w : World) (C : Nat) (A : Option Addr) (n c : Nat) (L : List Int) (i : Nat) (p : Int) (h : WkAt w C A n c L i 0 p) (hi : i ≤ n) :
    Calls Tryz.prog 61 #[.pointer (some ⟨C, 0, none⟩), .int .i64 1] w fun e w' => e = .returned (.int .i32 (pk L (i + 1))) ∧ ∃ m, w' = w.drewN m := wk_sees w C A n c L i 1 p h hi (by omega)

theorem wk_blind (w : World) (C : Nat) (A : Option Addr) (n c : Nat) (L : List Int) (i e p k : Int) (h : WkAt w C A n c L i e p) (he : e ≠ 0) :
    Calls Tryz.prog 61 #[.pointer (some ⟨C, 0, none⟩), .int .i64 k] w fun en w' => en = .returned (.int .i32 (-1)) ∧ WkAt w' C A n c L i e p ∧ But w C w' := by
  refine (wk_sees_bad w C A n c L i e p k h he).mono ?_
  rintro en w1 ⟨rfl, m, rfl⟩
  exact ⟨rfl, h.drewN m, But.drewN w C m⟩

end Go.Proofs.YthnhbcohfoodlaaGreatDoor

/- scriptref3.Walk: Blanks, Must. -/
namespace Go.Proofs.YthnhbcohfoodlaaGreatDoor
open Go.RowKit

/-- Behind a step of the walk: it goes on, or has its first fault. -/
def WkR (w : World) (C : Nat) (A : Option Addr) (n c : Nat) (L : List Int) (p : Int) (r : Except (Int × Nat) Nat) (w' : World) : Prop :=
  (match r with | .ok j => j ≤ n ∧ WkAt w' C A n c L j 0 p | .error (x, q) => x ≠ 0 ∧ ∃ i, WkAt w' C A n c L i x q) ∧ But w C w'

set_option maxHeartbeats 1600000 in
theorem wk_blanks (w : World) (C : Nat) (A : Option Addr) (n c : Nat) (L : List Int) (i : Nat) (p : Int) (h : WkAt w C A n c L i 0 p) (hi : i ≤ n) :
    Calls Tryz.prog 41 #[.pointer (some ⟨C, 0, none⟩)] w fun e w' => e = .returned (.tuple #[]) ∧ WkAt w' C A n c L (skipP L i : Nat) 0 p ∧ But w C w' := by
  have HC := Lib.hid h
  have hs := h.size
  have hl := h.len
  clear h
  go_enter Tryz.func41, Tryz.ntmps41
  go_wp2_with fail
  go_loopw [2] (fun _ wr => ∃ j : Nat, j ≤ n ∧ skipP L i = skipP L j ∧ WkAt wr C A n c L j 0 p ∧ But w C wr) (fun _ wr => n - (match wr.cell? ⟨C, 1, none⟩ with | some (.int _ j) => j.toNat | _ => 0))
  case atStart => exact ⟨i, hi, rfl, HC.out, But.refl _ _⟩
  case round =>
    obtain ⟨j, hj, hsk, hc, hb⟩ := hrel
    have HJ := Lib.hid hc
    have HB := Lib.hid hb
    have HS := Lib.hid hsk
    have HSE := Lib.hid (fun (W : World) (h : WkAt W C A n c L j 0 p) => wk_sees0 W C A n c L j p h hj)
    have hm0 := hc.c1
    have HM0 := Lib.hid hm0
    have hw1 : IntKind.i64.wrap ((j : Int) + 1) = ((j + 1 : Nat) : Int) := by rw [wrap_small _ (by omega) (by omega)]; omega
    have HGO := Lib.hid (fun (W : World) (h : WkAt W C A n c L j 0 p) (hb : But w C W) (hbl : blankB (pk L j) = true) => show (∃ j2 : Nat, j2 ≤ n ∧ skipP L i = skipP L j2 ∧ WkAt (W.setCell ⟨C, 1, none⟩ (.int .i64 ((j : Int) + 1))) C A n c L j2 0 p ∧ But w C (W.setCell ⟨C, 1, none⟩ (.int .i64 ((j : Int) + 1)))) ∧ n - (match (W.setCell ⟨C, 1, none⟩ (.int .i64 ((j : Int) + 1))).cell? ⟨C, 1, none⟩ with | some (.int _ j) => j.toNat | _ => 0) < n - (match wr.cell? ⟨C, 1, none⟩ with | some (.int _ j) => j.toNat | _ => 0) by
      have hlt : j < L.length := pk_lt (fun e => by rw [e] at hbl; exact absurd hbl (by decide))
      have hmv := h.put1 ((j : Int) + 1)
      refine ⟨⟨j + 1, by omega, HS.out.trans (runFrom_in hlt hbl), by rw [show (((j + 1 : Nat)) : Int) = (j : Int) + 1 by omega]; exact hmv, hb.trans (But.set _ C 1 _)⟩, ?_⟩
      rw [hmv.c1, HM0.out]
      simp only [Int.toNat_natCast]
      omega)
    have HST := Lib.hid (fun (hbl : blankB (pk L j) = false) => show skipP L i = j from HS.out.trans (runFrom_out (fun _ => hbl)))
    clear hc hb hsk hm0 HS HM0
    go_wp2_with fail
    refine (HSE.out _ HJ.out).mono ?_
    rintro e w1 ⟨rfl, m1, hw1'⟩
    have HC1 := Lib.hid (HJ.out.drewN m1)
    have HB1 := Lib.hid (HB.out.trans (But.drewN wr C m1))
    rw [← hw1'] at HC1 HB1
    clear hw1'
    by_cases h1 : pk L j = 32
    · have HR := Lib.hid (HGO.out _ HC1.out HB1.out (by rw [h1]; rfl))
      rw [h1]
      have d1 := HC1.out.c1
      have d2 := HC1.out.fz 1
      go_wp2_with fail
      exact HR.out
    · have q1 : decide (pk L j = 32) = false := decide_eq_false h1
      have q1' : (pk L j == 32) = false := by rw [beq_eq_false_iff_ne]; exact h1
      go_wp2_with fail
      refine (HSE.out _ HC1.out).mono ?_
      rintro e w2 ⟨rfl, m2, hw2'⟩
      have HC2 := Lib.hid (HC1.out.drewN m2)
      have HB2 := Lib.hid (HB1.out.trans (But.drewN w1 C m2))
      rw [← hw2'] at HC2 HB2
      clear hw2'
      by_cases h2 : pk L j = 9
      · have HR := Lib.hid (HGO.out _ HC2.out HB2.out (by rw [h2]; rfl))
        rw [h2]
        have d1 := HC2.out.c1
        have d2 := HC2.out.fz 1
        go_wp2_with fail
        exact HR.out
      · have q2 : decide (pk L j = 9) = false := decide_eq_false h2
        have q2' : (pk L j == 9) = false := by rw [beq_eq_false_iff_ne]; exact h2
        go_wp2_with fail
        refine (HSE.out _ HC2.out).mono ?_
        rintro e w3 ⟨rfl, m3, hw3'⟩
        have HC3 := Lib.hid (HC2.out.drewN m3)
        have HB3 := Lib.hid (HB2.out.trans (But.drewN w2 C m3))
        rw [← hw3'] at HC3 HB3
        clear hw3'
        by_cases h3 : pk L j = 10
        · have HR := Lib.hid (HGO.out _ HC3.out HB3.out (by rw [h3]; rfl))
          rw [h3]
          have d1 := HC3.out.c1
          have d2 := HC3.out.fz 1
          go_wp2_with fail
          exact HR.out
        · have q3 : decide (pk L j = 10) = false := decide_eq_false h3
          have q3' : (pk L j == 10) = false := by rw [beq_eq_false_iff_ne]; exact h3
          have HE := Lib.hid (HST.out (by unfold blankB; rw [q1, q2, q3]; rfl))
          go_wp2_with fail
          go_end0
          rw [HE.out]
          exact ⟨rfl, HC3.out, HB3.out⟩

set_option maxHeartbeats 1600000 in
theorem wk_blanks_bad (w : World) (C : Nat) (A : Option Addr) (n c : Nat) (L : List Int) (i e p : Int) (h : WkAt w C A n c L i e p) (he : e ≠ 0) :
    Calls Tryz.prog 41 #[.pointer (some ⟨C, 0, none⟩)] w fun en w' => en = .returned (.tuple #[]) ∧ WkAt w' C A n c L i e p ∧ But w C w' := by
  have HS := Lib.hid (fun (W : World) (h : WkAt W C A n c L i e p) => wk_blind W C A n c L i e p 0 h he)
  have H0 := Lib.hid h
  clear h
  go_enter Tryz.func41, Tryz.ntmps41
  go_wp2_with fail
  go_loopw [2] (fun _ wr => w = wr) (fun _ _ => 0)
  case atStart => rfl
  case round =>
    subst hrel
    go_wp2_with fail
    refine (HS.out _ H0.out).mono ?_
    rintro en w1 ⟨rfl, hc1, hb1⟩
    have H1 := Lib.hid hc1
    have B1 := Lib.hid hb1
    clear hc1 hb1
    go_wp2_with fail
    refine (HS.out _ H1.out).mono ?_
    rintro en w2 ⟨rfl, hc2, hb2⟩
    have H2 := Lib.hid hc2
    have B2 := Lib.hid (B1.out.trans hb2)
    clear hc2 hb2
    go_wp2_with fail
    refine (HS.out _ H2.out).mono ?_
    rintro en w3 ⟨rfl, hc3, hb3⟩
    have H3 := Lib.hid hc3
    have B3 := Lib.hid (B2.out.trans hb3)
    clear hc3 hb3
    go_wp2_with fail
    go_end0
    exact ⟨rfl, H3.out, B3.out⟩

set_option maxHeartbeats 1600000 in
theorem wk_must (w : World) (C : Nat) (A : Option Addr) (n c : Nat) (L : List Int) (i : Nat) (p r : Int) (h : WkAt w C A n c L i 0 p) (hi : i ≤ n) (hr : r ≠ -1) :
    Calls Tryz.prog 63 #[.pointer (some ⟨C, 0, none⟩), .int .i32 r] w fun en w' => en = .returned (.tuple #[]) ∧ WkR w C A n c L p (needP L i r) w' := by
  have HSE := Lib.hid (wk_sees0 w C A n c L i p h hi)
  have HC := Lib.hid h
  have hs := h.size
  have hl := h.len
  have hw1 : IntKind.i64.wrap ((i : Int) + 1) = (i : Int) + 1 := wrap_small _ (by omega) (by omega)
  clear h
  unfold needP
  by_cases he : pk L i = r
  · have hlt : i < L.length := pk_lt (by omega)
    rw [if_pos he]
    have q1 : (pk L i == r) = true := by rw [beq_iff_eq]; exact he
    have q2 : (pk L i != r) = false := by rw [bne, q1]; rfl
    go_enter Tryz.func63, Tryz.ntmps63
    go_wp2_with fail
    refine HSE.out.mono ?_
    rintro e w1 ⟨rfl, m, rfl⟩
    have HC1 := Lib.hid (HC.out.drewN m)
    obtain ⟨d1, d2, d3, d4⟩ := HC1.out.step
    have HC2 := Lib.hid d3
    have HB2 := Lib.hid ((But.drewN w C m).trans d4)
    clear d3 d4
    go_wp2_with fail
    go_end0
    refine ⟨rfl, ⟨by omega, ?_⟩, HB2.out⟩
    rw [show (((i + 1 : Nat)) : Int) = (i : Int) + 1 by omega]
    exact HC2.out
  · rw [if_neg he]
    have q1 : (pk L i == r) = false := by rw [beq_eq_false_iff_ne]; exact he
    have q2 : (pk L i != r) = true := by rw [bne, q1]; rfl
    go_enter Tryz.func63, Tryz.ntmps63
    go_wp2_with fail
    refine HSE.out.mono ?_
    rintro e w1 ⟨rfl, m, rfl⟩
    have HC1 := Lib.hid (HC.out.drewN m)
    have d1 := HC1.out.c1
    go_wp2_with fail
    refine (wk_stop _ C A n c L i p 2 i HC1.out).mono ?_
    rintro e w2 ⟨rfl, hc2, hb2⟩
    have HC2 := Lib.hid hc2
    have HB2 := Lib.hid ((But.drewN w C m).trans hb2)
    clear hc2 hb2
    go_wp2_with fail
    (try simp only [Exit.inBlock, Exit.then])
    refine bodyPost_ret (results_none rfl _ _ _) rfl ?_
    exact ⟨rfl, ⟨by decide, _, HC2.out⟩, HB2.out⟩
set_option maxHeartbeats 1600000 in
theorem wk_must_bad (w : World) (C : Nat) (A : Option Addr) (n c : Nat) (L : List Int) (i e p r : Int) (h : WkAt w C A n c L i e p) (he : e ≠ 0) (hr : r ≠ -1) :
    Calls Tryz.prog 63 #[.pointer (some ⟨C, 0, none⟩), .int .i32 r] w fun en w' => en = .returned (.tuple #[]) ∧ WkAt w' C A n c L i e p ∧ But w C w' := by
  have HS := Lib.hid (wk_blind w C A n c L i e p 0 h he)
  have q1 : ((-1 : Int) == r) = false := by rw [beq_eq_false_iff_ne]; exact fun h => hr h.symm
  have q2 : ((-1 : Int) != r) = true := by rw [bne, q1]; rfl
  clear h
  go_enter Tryz.func63, Tryz.ntmps63
  go_wp2_with fail
  refine HS.out.mono ?_
  rintro en w1 ⟨rfl, hc1, hb1⟩
  have H1 := Lib.hid hc1
  have B1 := Lib.hid hb1
  have d1 := hc1.c1
  clear hc1 hb1
  go_wp2_with fail
  refine (wk_stop_bad _ C A n c L i e p 2 i H1.out he).mono ?_
  rintro en w2 ⟨rfl, hw2⟩
  subst hw2
  go_wp2_with fail
  (try simp only [Exit.inBlock, Exit.then])
  refine bodyPost_ret (results_none rfl _ _ _) rfl ?_
  exact ⟨rfl, H1.out, B1.out⟩

end Go.Proofs.YthnhbcohfoodlaaGreatDoor

/- scriptref3: alnum, Digit, Special: which runes are letters, digits of sixteen, special. -/
namespace Go.Proofs.YthnhbcohfoodlaaGreatDoor
open Go.RowKit

def spL : List Int := [91, 93, 38, 45, 94, 92, 58, 36, 40, 41, 123, 125, 60, 62, 124, 59, 35, 39, 34, 61, 44, 32, 9, 10]
def spT : ByteArray := ⟨#[91, 93, 38, 45, 94, 92, 58, 36, 40, 41, 123, 125, 60, 62, 124, 59, 35, 39, 34, 61, 44, 32, 9, 10]⟩
theorem sp_decode : ∀ p : Nat, p < 24 → ((Utf8.decode spT p).1 : Int) = spL.getD p 0 ∧ (Utf8.decode spT p).2 = 1 := by decide +kernel
theorem sp_plain {r : Int} (h : 0 ≤ r) : spL.contains r = !plainB r := by
  have h1 : spL = specialL ++ [32, 9, 10] := rfl
  rw [h1, List.contains_eq_any_beq, List.any_append, ← List.contains_eq_any_beq]
  unfold plainB blankB
  rw [decide_eq_true h]
  cases hc : specialL.contains r with
  | true => simp
  | false =>
    rw [Bool.eq_iff_iff]
    simp
def SpRel (w : World) (r : Int) (wr : World) : Prop :=
  ∃ p : Nat, p ≤ 24 ∧ wr.heap[w.heap.size]? = some (.stringIter spT p) ∧ (spL.drop p).contains r = spL.contains r ∧ Below w.heap.size w wr
set_option maxRecDepth 100000 in
set_option maxHeartbeats 1600000 in
theorem ref_special (r : Int) (w : World) :
    Calls Tryz.prog 83 #[.int .i32 r] w fun e w' => e = .returned (.bool (spL.contains r)) ∧ Below w.heap.size w w' := by
  go_enter Tryz.func83, Tryz.ntmps83
  go_wp2_with fail
  go_loopw [2] (fun _ wr => SpRel w r wr) (fun _ wr => 24 - wr.iterPos w.heap.size)
  case atStart => exact ⟨0, Nat.zero_le _, World.iter_heap _ _ _, rfl, (Below.refl _ _).alloc (Nat.le_refl _) _⟩
  case round =>
    obtain ⟨p, hp, hit, hgo, hbel⟩ := hrel
    have hz := hbel.size
    have hit2 := iterPos_of hit
    by_cases hlt : p < 24
    · have hnext := fun ty => Lib.run_next_any_at (P := Tryz.prog) wr w.heap.size spT p ty hit hlt
      obtain ⟨hd1, hd2⟩ := sp_decode p hlt
      have hit1 := Lib.iterAt_heap wr w.heap.size spT p (p + (Utf8.decode spT p).2) hit
      have hb1 := Lib.below_iterAt hbel (Nat.le_refl _) spT (p + (Utf8.decode spT p).2)
      rw [hd2] at hit1 hb1 hnext
      rw [hd1] at hnext
      generalize wr.iterAt w.heap.size spT (p + 1) = W1 at *
      obtain ⟨x, hx⟩ : ∃ x, spL[p]? = some x := ⟨_, List.getElem?_eq_getElem hlt⟩
      have hgd : spL.getD p 0 = x := by rw [List.getD_eq_getElem?_getD, hx]; rfl
      rw [hgd] at hnext
      have hdr : spL.drop p = x :: spL.drop (p + 1) := by
        rw [List.drop_eq_getElem_cons (show p < spL.length from hlt)]
        congr 1
        rw [List.getElem?_eq_getElem (show p < spL.length from hlt)] at hx
        exact Option.some.inj hx
      rw [hdr, List.contains_cons] at hgo
      have HP3 := Lib.hid (iterPos_of hit1)
      have HIT := Lib.hid hit1
      have HIT2 := Lib.hid hit2
      have HG := Lib.hid hgo
      have HB := Lib.hid hb1
      clear hit hit1 hit2 hd1 hd2 hgd hdr hgo hb1 hbel hx
      by_cases he : x = r
      · have HE := Lib.hid (show spL.contains r = true by rw [← HG.out, he]; simp)
        subst he
        go_wp2_with fail
        go_ret
        rw [HE.out]
        exact ⟨rfl, HB.out⟩
      · have HE := Lib.hid (show (spL.drop (p + 1)).contains r = spL.contains r by rw [← HG.out, beq_eq_false_iff_ne.2 (Ne.symm he)]; simp)
        have q1 : (x == r) = false := by rw [beq_eq_false_iff_ne]; exact he
        go_wp2_with fail
        exact ⟨⟨p + 1, by omega, HIT.out, HE.out, HB.out⟩, by rw [HP3.out, HIT2.out]; omega⟩
    · have hnext := fun ty => Lib.run_next_end_at (P := Tryz.prog) wr w.heap.size spT p ty hit hlt
      obtain rfl : p = 24 := by omega
      have HE := Lib.hid (show spL.contains r = false from hgo.symm)
      clear hit hit2 hgo
      go_wp2_with fail
      go_ret
      rw [HE.out]
      exact ⟨rfl, hbel⟩

theorem ref_alnum (r : Int) (w : World) :
    Calls Tryz.prog 139 #[.int .i32 r] w fun e w' => e = .returned (.bool (alnB r)) ∧ w' = w := by
  go_enter Tryz.func139, Tryz.ntmps139
  go_wp2
  all_goals go_ret
  all_goals refine ⟨ret_bool ?_, rfl⟩
  all_goals (rw [Bool.eq_iff_iff]; simp [alnB]; try omega)
/-- Digit of sixteen; below 0: none. -/
def digV (r : Int) : Int := if hexB r = true then hexV r else -1
theorem digV_hex {r : Int} (h : hexB r = true) : digV r = hexV r ∧ 0 ≤ hexV r ∧ hexV r ≤ 15 := by
  refine ⟨by unfold digV; rw [if_pos h], ?_⟩
  unfold hexB at h
  simp at h
  unfold hexV
  split
  · omega
  · split <;> omega
theorem digV_no {r : Int} (h : hexB r = false) : digV r = -1 := by unfold digV; rw [h]; rfl
theorem ref_digit (r : Int) (w : World) (h0 : -1 ≤ r) (h1 : r ≤ 1114111) :
    Calls Tryz.prog 138 #[.int .i32 r] w fun e w' => e = .returned (.int .i64 (digV r)) ∧ w' = w := by
  rcases (show (r < 48 ∨ (57 < r ∧ r < 65) ∨ (70 < r ∧ r < 97) ∨ 102 < r) ∨ (48 ≤ r ∧ r ≤ 57) ∨ (97 ≤ r ∧ r ≤ 102) ∨ (65 ≤ r ∧ r ≤ 70) by omega) with h | h | h | h
  · have HV := Lib.hid (show digV r = -1 from digV_no (by unfold hexB; rw [Bool.eq_false_iff]; simp; omega))
    rcases h with h | h | h | h
    all_goals
      go_enter Tryz.func138, Tryz.ntmps138
      go_wp2_with fail
      go_ret
      rw [HV.out]
      exact ⟨rfl, rfl⟩
  · have HV := Lib.hid (show digV r = r - 48 by rw [(digV_hex (r := r) (by unfold hexB; simp; omega)).1]; unfold hexV; rw [if_pos h.2])
    go_enter Tryz.func138, Tryz.ntmps138
    go_wp2_with fail
    go_ret
    rw [HV.out]
    exact ⟨rfl, rfl⟩
  · have HV := Lib.hid (show digV r = r - 97 + 10 by rw [(digV_hex (r := r) (by unfold hexB; simp; omega)).1]; unfold hexV; rw [if_neg (by omega), if_pos h.1]; omega)
    go_enter Tryz.func138, Tryz.ntmps138
    go_wp2_with fail
    go_ret
    rw [HV.out]
    exact ⟨rfl, rfl⟩
  · have HV := Lib.hid (show digV r = r - 65 + 10 by rw [(digV_hex (r := r) (by unfold hexB; simp; omega)).1]; unfold hexV; rw [if_neg (by omega), if_neg (by omega)]; omega)
    go_enter Tryz.func138, Tryz.ntmps138
    go_wp2_with fail
    go_ret
    rw [HV.out]
    exact ⟨rfl, rfl⟩

end Go.Proofs.YthnhbcohfoodlaaGreatDoor
