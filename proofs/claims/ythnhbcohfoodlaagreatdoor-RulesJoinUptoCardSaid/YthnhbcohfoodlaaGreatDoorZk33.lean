/- Cursor + CurFail + CurSkip + CurPlain -/
import Derived.Test.YthnhbcohfoodlaaGreatDoorZk19
import Derived.Test.YthnhbcohfoodlaaGreatDoorZk28
namespace Go.Proofs.YthnhbcohfoodlaaGreatDoor
open Go.RowKit
def BlkA (w : World) (g : Nat) (cs : Array Value) : Prop := ∃ t, Blk w g t cs
section
variable {w w' : World} {g : Nat} {cs : Array Value}
theorem BlkA.lt (h : BlkA w g cs) : g < w.heap.size := let ⟨_, hb⟩ := h; hb.lt
theorem BlkA.cell (h : BlkA w g cs) (i : Nat) : w.cell? ⟨g, i, none⟩ = cs[i]? := let ⟨_, hb⟩ := h; hb.cell i
theorem BlkA.frozen (h : BlkA w g cs) (i : Nat) : w.frozen? ⟨g, i, none⟩ = false := let ⟨_, hb⟩ := h; hb.frozen i
theorem BlkA.drewN (h : BlkA w g cs) (n : Nat) : BlkA (w.drewN n) g cs := h
theorem BlkA.put (h : BlkA w g cs) (i : Nat) (u : Value) : BlkA (w.setCell ⟨g, i, none⟩ u) g (cs.setIfInBounds i u) := let ⟨t, hb⟩ := h; ⟨t, hb.put i u⟩
theorem BlkA.below {B : Nat} (h : BlkA w g cs) (hb : Below B w w') (hg : g < B) : BlkA w' g cs := let ⟨t, hc⟩ := h; ⟨t, hc.below hb hg⟩
theorem BlkA.same (h : BlkA w g cs) (he : w'.heap[g]? = w.heap[g]?) : BlkA w' g cs := let ⟨t, hc⟩ := h; ⟨t, he.trans hc⟩
end
structure CurAt (w : World) (C : Nat) (A : Option Addr) (n c : Nat) (L : List Int) (i : Nat) : Prop where
  blk : BlkA w C #[.slice A n c, .int .i64 i]
  row : RdX w (fun b => b ≠ C) 1 A n (runeCells L)
  size : n ≤ 4611686018427387904
  le : i ≤ n
  cap : n ≤ c
theorem CurAt.len {w : World} {C : Nat} {A : Option Addr} {n c : Nat} {L : List Int} {i : Nat} (h : CurAt w C A n c L i) : L.length = n := by
  have := h.row.1; rw [runeCells_length] at this; omega
theorem CurAt.drewN {w : World} {C : Nat} {A : Option Addr} {n c : Nat} {L : List Int} {i : Nat} (h : CurAt w C A n c L i) (k : Nat) : CurAt (w.drewN k) C A n c L i :=
  ⟨h.blk.drewN k, h.row.keep (Keeps.any (below_drewN (Below.refl _ _) k)), h.size, h.le, h.cap⟩
set_option maxHeartbeats 1600000 in
theorem cur_look (w : World) (C : Nat) (A : Option Addr) (n c : Nat) (L : List Int) (i k : Nat) (h : CurAt w C A n c L i) (hk : k ≤ 1000) :
    Calls Tryz.prog 77 #[.pointer (some ⟨C, 0, none⟩), .int .i64 k] w fun e w' => e = .returned (.int .i32 (pk L (i + k))) ∧ ∃ m, w' = w.drewN m := by
  have c0 := h.blk.cell 0
  have c1 := h.blk.cell 1
  have hl := h.len
  have hs := h.size
  have hi := h.le
  have hw1 : IntKind.i64.wrap ((i : Int) + k) = ((i + k : Nat) : Int) := by rw [wrap_small _ (by omega) (by omega)]; omega
  by_cases hlt : i + k < n
  · obtain ⟨x, hx⟩ : ∃ x, L[i + k]? = some x := ⟨_, List.getElem?_eq_getElem (by omega)⟩
    rw [pk_at hx]
    obtain ⟨b, o, rfl, _, _, hc⟩ := h.row.2 (by omega)
    have d0 : w.cell? ⟨b, o + (i + k), none⟩ = some (.int .i32 x) := hc _ _ (by simp [runeCells, hx])
    have hg : decide ((n : Int) ≤ ((i + k : Nat) : Int)) = false := decide_eq_false (by omega)
    have hk0 : (0 : Int) ≤ ((i + k : Nat) : Int) := by omega
    have hk1 : ((i + k : Nat) : Int) < (n : Int) := by omega
    clear hc h hx hl
    go_enter Tryz.func77, Tryz.ntmps77
    go_wp2_with fail
    go_quiet (fail)
    go_wp2_with fail
    go_quiet (fail)
    go_wp2_with fail
    go_ret
    exact ⟨rfl, _, by rw [World.drewN_drewN]⟩
  · rw [pk_end (by omega)]
    have hg : decide ((n : Int) ≤ ((i + k : Nat) : Int)) = true := decide_eq_true (by omega)
    clear h hl
    go_enter Tryz.func77, Tryz.ntmps77
    go_wp2_with fail
    go_quiet (fail)
    go_wp2_with fail
    go_ret
    exact ⟨rfl, _, rfl⟩
theorem cur_peek (w : World) (C : Nat) (A : Option Addr) (n c : Nat) (L : List Int) (i : Nat) (h : CurAt w C A n c L i) :
    Calls Tryz.prog 57 #[.pointer (some ⟨C, 0, none⟩)] w fun e w' => e = .returned (.int .i32 (pk L i)) ∧ ∃ m, w' = w.drewN m := by
  have HL := Lib.hid (show Calls Tryz.prog 77 #[.pointer (some ⟨C, 0, none⟩), .int .i64 0] w fun e w' => e = .returned (.int .i32 (pk L i)) ∧ ∃ m, w' = w.drewN m from cur_look w C A n c L i 0 h (Nat.zero_le _))
  clear h
  go_enter Tryz.func57, Tryz.ntmps57
  go_wp2_with fail
  refine HL.out.mono ?_
  rintro e w1 ⟨rfl, hm⟩
  go_wp2_with fail
  go_ret
  exact ⟨rfl, hm⟩
end Go.Proofs.YthnhbcohfoodlaaGreatDoor

namespace Go.Proofs.YthnhbcohfoodlaaGreatDoor
open Go.RowKit
theorem syn_fail (e p : Int) (w : World) :
    Calls Tryz.prog 37 #[.int .i64 e, .int .i64 p] w fun en w' => en = .panicked [{ v := .iface 126 (.agg #[.int .i64 e, .int .i64 p]), recovered := false }] ∧ w' = w := by
  go_enter Tryz.func37, Tryz.ntmps37
  go_wp2_with fail
  exact ⟨rfl, rfl, rfl⟩
theorem syn_blank (r : Int) (w : World) :
    Calls Tryz.prog 75 #[.int .i32 r] w fun e w' => e = .returned (.bool (blankB r)) ∧ w' = w := by
  go_enter Tryz.func75, Tryz.ntmps75
  go_wp2
  all_goals go_ret
  all_goals refine ⟨ret_bool ?_, rfl⟩
  all_goals (rw [Bool.eq_iff_iff]; simp [blankB]; try omega)
def thrown (e p : Int) : Ending := .panicked [{ v := .iface 126 (.agg #[.int .i64 e, .int .i64 p]), recovered := false }]
theorem CurAt.move {w : World} {C : Nat} {A : Option Addr} {n c : Nat} {L : List Int} {i j : Nat} (h : CurAt w C A n c L i) (hj : j ≤ n) : CurAt (w.setCell ⟨C, 1, none⟩ (.int .i64 j)) C A n c L j :=
  ⟨h.blk.put 1 _, h.row.keep (Keeps.setCell (p := ⟨C, 1, none⟩) _ (fun _ hb => hb) (fun _ h _ => h)), h.size, hj, h.cap⟩
set_option maxHeartbeats 1600000 in
theorem cur_need (w : World) (C : Nat) (A : Option Addr) (n c : Nat) (L : List Int) (i : Nat) (r : Int) (h : CurAt w C A n c L i) (hr : r ≠ -1) :
    Calls Tryz.prog 59 #[.pointer (some ⟨C, 0, none⟩), .int .i32 r] w fun e w' =>
      match needP L i r with
      | .ok j => e = .returned (.tuple #[]) ∧ CurAt w' C A n c L j ∧ But w C w'
      | .error (x, p) => e = thrown x p ∧ But w C w' := by
  have HPK := Lib.hid (cur_peek w C A n c L i h)
  have HC := Lib.hid h
  have hs := h.size
  have hi := h.le
  have hl := h.len
  have hw1 : IntKind.i64.wrap ((i : Int) + 1) = ((i + 1 : Nat) : Int) := by rw [wrap_small _ (by omega) (by omega)]; omega
  clear h
  unfold needP
  by_cases he : pk L i = r
  · have hlt : i < L.length := pk_lt (by omega)
    rw [if_pos he]
    have hg : decide (pk L i = r) = true := decide_eq_true he
    go_enter Tryz.func59, Tryz.ntmps59
    go_wp2_with fail
    refine HPK.out.mono ?_
    rintro e w1 ⟨rfl, m, rfl⟩
    have HC1 := Lib.hid (HC.out.drewN m)
    have c0 := HC1.out.blk.cell 0
    have c1 := HC1.out.blk.cell 1
    have f1 := HC1.out.blk.frozen 1
    go_wp2_with fail
    have hm := HC1.out.move (j := i + 1) (by omega)
    rw [show (((i + 1 : Nat)) : Int) = (i : Int) + 1 by omega] at hm
    go_end0
    exact ⟨rfl, hm, (But.drewN w C m).trans (But.set _ C 1 _)⟩
  · rw [if_neg he]
    go_enter Tryz.func59, Tryz.ntmps59
    go_wp2_with fail
    refine HPK.out.mono ?_
    rintro e w1 ⟨rfl, m, rfl⟩
    have HC1 := Lib.hid (HC.out.drewN m)
    have c0 := HC1.out.blk.cell 0
    have c1 := HC1.out.blk.cell 1
    go_wp2_with fail
    refine (syn_fail 2 i _).mono ?_
    rintro e w2 ⟨rfl, rfl⟩
    go_wp2_with fail
    exact ⟨rfl, rfl, But.drewN w C m⟩
end Go.Proofs.YthnhbcohfoodlaaGreatDoor

namespace Go.Proofs.YthnhbcohfoodlaaGreatDoor
open Go.RowKit
set_option maxHeartbeats 1600000 in
theorem cur_skip (w : World) (C : Nat) (A : Option Addr) (n c : Nat) (L : List Int) (i : Nat) (h : CurAt w C A n c L i) :
    Calls Tryz.prog 38 #[.pointer (some ⟨C, 0, none⟩)] w fun e w' => e = .returned (.tuple #[]) ∧ CurAt w' C A n c L (skipP L i) ∧ But w C w' := by
  have HC := Lib.hid h
  have hs := h.size
  have hl := h.len
  clear h
  go_enter Tryz.func38, Tryz.ntmps38
  go_wp2_with fail
  go_loopw [2] (fun _ wr => ∃ j, j ≤ n ∧ skipP L i = skipP L j ∧ CurAt wr C A n c L j ∧ But w C wr) (fun _ wr => n - (match wr.cell? ⟨C, 1, none⟩ with | some (.int _ j) => j.toNat | _ => 0))
  case atStart => exact ⟨i, HC.out.le, rfl, HC.out, But.refl _ _⟩
  case round =>
    obtain ⟨j, hj, hsk, hc, hb⟩ := hrel
    have HJ := Lib.hid hc
    have HB := Lib.hid hb
    have HS := Lib.hid hsk
    have HPK := Lib.hid (cur_peek wr C A n c L j hc)
    have hm0 := hc.blk.cell 1
    have HM0 := Lib.hid hm0
    have hw1 : IntKind.i64.wrap ((j : Int) + 1) = ((j + 1 : Nat) : Int) := by rw [wrap_small _ (by omega) (by omega)]; omega
    clear hc hb hsk hm0
    go_wp2_with fail
    refine HPK.out.mono ?_
    rintro e w1 ⟨rfl, m, rfl⟩
    have HC1 := Lib.hid (HJ.out.drewN m)
    go_wp2_with fail
    refine (syn_blank _ _).mono ?_
    rintro e w2 ⟨rfl, rfl⟩
    by_cases hbl : blankB (pk L j) = true
    · rw [hbl]
      have hlt : j < L.length := pk_lt (fun e => by rw [e] at hbl; exact absurd hbl (by decide))
      have c0 := HC1.out.blk.cell 0
      have c1 := HC1.out.blk.cell 1
      have f1 := HC1.out.blk.frozen 1
      have hmv := HC1.out.move (j := j + 1) (by omega)
      rw [show (((j + 1 : Nat)) : Int) = (j : Int) + 1 by omega] at hmv
      have HMV := Lib.hid hmv
      clear hmv
      go_wp2_with fail
      refine ⟨⟨j + 1, by omega, HS.out.trans (runFrom_in hlt hbl), HMV.out, (HB.out.trans (But.drewN wr C m)).trans (But.set _ C 1 _)⟩, ?_⟩
      have e1 : ((wr.drewN m).setCell ⟨C, 1, none⟩ (.int .i64 ((j : Int) + 1))).cell? ⟨C, 1, none⟩ = some (.int .i64 ((j + 1 : Nat) : Int)) := HMV.out.blk.cell 1
      have e2 : wr.cell? ⟨C, 1, none⟩ = some (.int .i64 (j : Int)) := HM0.out
      rw [e1, e2]
      simp only [Int.toNat_natCast]
      omega
    · rw [Bool.not_eq_true] at hbl
      rw [hbl]
      go_wp2_with fail
      go_end0
      refine ⟨rfl, ?_, HB.out.trans (But.drewN wr C m)⟩
      rw [HS.out, show skipP L j = j from runFrom_out (fun _ => hbl)]
      exact HC1.out
end Go.Proofs.YthnhbcohfoodlaaGreatDoor

namespace Go.Proofs.YthnhbcohfoodlaaGreatDoor
open Go.RowKit
def runeOk (r : Int) : Prop := r = -1 ∨ Utf8.valid r = true
def specialS : ByteArray := ⟨#[91, 93, 38, 45, 94, 92, 58, 36, 40, 41, 123, 125, 60, 62, 124, 59, 35, 39, 34, 61, 44]⟩
theorem special_any (r : Int) : (specialS.data.toList.any fun b => decide ((b.toNat : Int) = r)) = specialL.contains r := by
  rw [Bool.eq_iff_iff]
  simp [specialS, specialL]
  omega
set_option maxHeartbeats 1600000 in
theorem syn_plain (r : Int) (w : World) (hr : runeOk r) :
    Calls Tryz.prog 128 #[.int .i32 r] w fun e w' => e = .returned (.bool (plainB r)) ∧ Below w.heap.size w w' := by
  have HS := Lib.hid (show Calls Tryz.prog 154 #[.string specialS, .int .i32 r] w fun e w' => e = .returned (.bool (specialL.contains r)) ∧ Below w.heap.size w w' by
    have := contains_rune specialS r w (by decide) (by decide) (by decide) hr
    rw [special_any] at this
    exact this)
  clear hr
  unfold plainB
  by_cases h0 : 0 ≤ r
  · have hd : decide (0 ≤ r) = true := decide_eq_true h0
    rw [hd]
    cases hb : blankB r
    · go_enter Tryz.func128, Tryz.ntmps128
      go_wp2_with fail
      refine (syn_blank _ _).mono ?_
      rintro e w1 ⟨rfl, hw⟩
      rw [hw, hb]
      go_wp2_with fail
      refine HS.out.mono ?_
      rintro e w2 ⟨rfl, hb2⟩
      go_wp2_with fail
      go_ret
      exact ⟨by simp, hb2⟩
    · go_enter Tryz.func128, Tryz.ntmps128
      go_wp2_with fail
      refine (syn_blank _ _).mono ?_
      rintro e w1 ⟨rfl, hw⟩
      rw [hw, hb]
      go_wp2_with fail
      go_ret
      exact ⟨by simp, Below.refl _ _⟩
  · have hd : decide (0 ≤ r) = false := decide_eq_false h0
    rw [hd]
    go_enter Tryz.func128, Tryz.ntmps128
    go_wp2_with fail
    go_ret
    exact ⟨by simp, Below.refl _ _⟩
end Go.Proofs.YthnhbcohfoodlaaGreatDoor
