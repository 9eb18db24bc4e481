/- Cursor + CurFail + CurSkip + CurPlain + CurHex -/
import Derived.Test.YthnhbcohfoodlaaGreatDoorZt30
import Derived.Test.YthnhbcohfoodlaaGreatDoorZt31
import Derived.Test.YthnhbcohfoodlaaGreatDoorZt9
namespace Go.Proofs.YthnhbcohfoodlaaGreatDoor
open Go.RowKit
def BlkA (w : World) (g : Nat) (cs : Array Value) : Prop := ∃ t, Blk w g t cs
section
variable {w w' : World} {g : Nat} {cs : Array Value}
theorem BlkA.lt (h : BlkA w g cs) : g < w.heap.size := let ⟨_, hb⟩ := h; hb.lt
theorem BlkA.cell (h : BlkA w g cs) (i : Nat) : w.cell? ⟨g, i, none⟩ = cs[i]? := let ⟨_, hb⟩ := h; hb.cell i
theorem BlkA.frozen (h : BlkA w g cs) (i : Nat) : w.frozen? ⟨g, i, none⟩ = false := let ⟨_, hb⟩ := h; hb.frozen i
theorem BlkA.drewN (h : BlkA w g cs) (n : Nat) : BlkA (w.drewN n) g cs := h
theorem BlkA.put (h : BlkA w g cs) (i : Nat) (u : Value) : BlkA (w.setCell ⟨g, i, none⟩ u) g (cs.setIfInBounds i u) := let ⟨t, hb⟩ := h; ⟨t, hb.put i u⟩
theorem BlkA.below {B : Nat} (h : BlkA w g cs) (hb : Below B w w') (hg : g < B) : BlkA w' g cs := let ⟨t, hc⟩ := h; ⟨t, hc.below hb hg⟩
theorem BlkA.same (h : BlkA w g cs) (he : w'.heap[g]? = w.heap[g]?) : BlkA w' g cs := let ⟨t, hc⟩ := h; ⟨t, he.trans hc⟩
end
structure CurAt (w : World) (C : Nat) (A : Option Addr) (n c : Nat) (L : List Int) (i : Nat) : Prop where
 blk : BlkA w C #[.slice A n c, .int .i64 i]
 row : RdX w (fun b => b ≠ C) 1 A n (runeCells L)
 size : n ≤ 4611686018427387904
 le : i ≤ n
 cap : n ≤ c
theorem CurAt.len {w : World} {C : Nat} {A : Option Addr} {n c : Nat} {L : List Int} {i : Nat} (h : CurAt w C A n c L i) : L.length = n := by
 have := h.row.1; rw [runeCells_length] at this; omega
theorem CurAt.drewN {w : World} {C : Nat} {A : Option Addr} {n c : Nat} {L : List Int} {i : Nat} (h : CurAt w C A n c L i) (k : Nat) : CurAt (w.drewN k) C A n c L i :=
 ⟨h.blk.drewN k, h.row.keep (Keeps.any (below_drewN (Below.refl _ _) k)), h.size, h.le, h.cap⟩
set_option maxHeartbeats 1600000 in
theorem cur_look (w : World) (C : Nat) (A : Option Addr) (n c : Nat) (L : List Int) (i k : Nat) (h : CurAt w C A n c L i) (hk : k ≤ 1000) :
 Calls Tryz.prog 77 #[.pointer (some ⟨C, 0, none⟩), .int .i64 k] w fun e w' => e = .returned (.int .i32 (pk L (i + k))) ∧ ∃ m, w' = w.drewN m := by
 have c0 := h.blk.cell 0
 have c1 := h.blk.cell 1
 have hl := h.len
 have hs := h.size
 have hi := h.le
 have hw1 : IntKind.i64.wrap ((i : Int) + k) = ((i + k : Nat) : Int) := by rw [wrap_small _ (by omega) (by omega)]; omega
 by_cases hlt : i + k < n
 ·obtain ⟨x, hx⟩ : ∃ x, L[i + k]? = some x := ⟨_, List.getElem?_eq_getElem (by omega)⟩
  rw [pk_at hx]
  obtain ⟨b, o, rfl, _, _, hc⟩ := h.row.2 (by omega)
  have d0 : w.cell? ⟨b, o + (i + k), none⟩ = some (.int .i32 x) := hc _ _ (by simp [runeCells, hx])
  have hg : decide ((n : Int) ≤ ((i + k : Nat) : Int)) = false := decide_eq_false (by omega)
  have hk0 : (0 : Int) ≤ ((i + k : Nat) : Int) := by omega
  have hk1 : ((i + k : Nat) : Int) < (n : Int) := by omega
  clear hc h hx hl
  go_enter Tryz.func77, Tryz.ntmps77
  go_wp2_with fail
  go_quiet (fail)
  go_wp2_with fail
  go_quiet (fail)
  go_wp2_with fail
  go_ret
  exact ⟨rfl, _, by rw [World.drewN_drewN]⟩
 ·rw [pk_end (by omega)]
  have hg : decide ((n : Int) ≤ ((i + k : Nat) : Int)) = true := decide_eq_true (by omega)
  clear h hl
  go_enter Tryz.func77, Tryz.ntmps77
  go_wp2_with fail
  go_quiet (fail)
  go_wp2_with fail
  go_ret
  exact ⟨rfl, _, rfl⟩
theorem cur_peek (w : World) (C : Nat) (A : Option Addr) (n c : Nat) (L : List Int) (i : Nat) (h : CurAt w C A n c L i) :
 Calls Tryz.prog 57 #[.pointer (some ⟨C, 0, none⟩)] w fun e w' => e = .returned (.int .i32 (pk L i)) ∧ ∃ m, w' = w.drewN m := by
 have HL := Lib.hid (show Calls Tryz.prog 77 #[.pointer (some ⟨C, 0, none⟩), .int .i64 0] w fun e w' => e = .returned (.int .i32 (pk L i)) ∧ ∃ m, w' = w.drewN m from cur_look w C A n c L i 0 h (Nat.zero_le _))
 clear h
 go_enter Tryz.func57, Tryz.ntmps57
 go_wp2_with fail
 refine HL.out.mono ?_
 rintro e w1 ⟨rfl, hm⟩
 go_wp2_with fail
 go_ret
 exact ⟨rfl, hm⟩
end Go.Proofs.YthnhbcohfoodlaaGreatDoor

namespace Go.Proofs.YthnhbcohfoodlaaGreatDoor
open Go.RowKit
theorem syn_fail (e p : Int) (w : World) :
 Calls Tryz.prog 37 #[.int .i64 e, .int .i64 p] w fun en w' => en = .panicked [{ v := .iface 126 (.agg #[.int .i64 e, .int .i64 p]), recovered := false }] ∧ w' = w := by
 go_enter Tryz.func37, Tryz.ntmps37
 go_wp2_with fail
 exact ⟨rfl, rfl, rfl⟩
theorem syn_blank (r : Int) (w : World) :
 Calls Tryz.prog 75 #[.int .i32 r] w fun e w' => e = .returned (.bool (blankB r)) ∧ w' = w := by
 go_enter Tryz.func75, Tryz.ntmps75
 go_wp2
 all_goals go_ret
 all_goals refine ⟨ret_bool ?_, rfl⟩
 all_goals (rw [Bool.eq_iff_iff]; simp [blankB]; try omega)
def thrown (e p : Int) : Ending := .panicked [{ v := .iface 126 (.agg #[.int .i64 e, .int .i64 p]), recovered := false }]
theorem CurAt.move {w : World} {C : Nat} {A : Option Addr} {n c : Nat} {L : List Int} {i j : Nat} (h : CurAt w C A n c L i) (hj : j ≤ n) : CurAt (w.setCell ⟨C, 1, none⟩ (.int .i64 j)) C A n c L j :=
 ⟨h.blk.put 1 _, h.row.keep (Keeps.setCell (p := ⟨C, 1, none⟩) _ (fun _ hb => hb) (fun _ h _ => h)), h.size, hj, h.cap⟩
set_option maxHeartbeats 1600000 in
theorem cur_need (w : World) (C : Nat) (A : Option Addr) (n c : Nat) (L : List Int) (i : Nat) (r : Int) (h : CurAt w C A n c L i) (hr : r ≠ -1) :
 Calls Tryz.prog 59 #[.pointer (some ⟨C, 0, none⟩), .int .i32 r] w fun e w' =>
  match needP L i r with
  | .ok j => e = .returned (.tuple #[]) ∧ CurAt w' C A n c L j ∧ But w C w'
  | .error (x, p) => e = thrown x p ∧ But w C w' := by
 have HPK := Lib.hid (cur_peek w C A n c L i h)
 have HC := Lib.hid h
 have hs := h.size
 have hi := h.le
 have hl := h.len
 have hw1 : IntKind.i64.wrap ((i : Int) + 1) = ((i + 1 : Nat) : Int) := by rw [wrap_small _ (by omega) (by omega)]; omega
 clear h
 unfold needP
 by_cases he : pk L i = r
 ·have hlt : i < L.length := pk_lt (by omega)
  rw [if_pos he]
  have hg : decide (pk L i = r) = true := decide_eq_true he
  go_enter Tryz.func59, Tryz.ntmps59
  go_wp2_with fail
  refine HPK.out.mono ?_
  rintro e w1 ⟨rfl, m, rfl⟩
  have HC1 := Lib.hid (HC.out.drewN m)
  have c0 := HC1.out.blk.cell 0
  have c1 := HC1.out.blk.cell 1
  have f1 := HC1.out.blk.frozen 1
  go_wp2_with fail
  have hm := HC1.out.move (j := i + 1) (by omega)
  rw [show (((i + 1 : Nat)) : Int) = (i : Int) + 1 by omega] at hm
  go_end0
  exact ⟨rfl, hm, (But.drewN w C m).trans (But.set _ C 1 _)⟩
 ·rw [if_neg he]
  go_enter Tryz.func59, Tryz.ntmps59
  go_wp2_with fail
  refine HPK.out.mono ?_
  rintro e w1 ⟨rfl, m, rfl⟩
  have HC1 := Lib.hid (HC.out.drewN m)
  have c0 := HC1.out.blk.cell 0
  have c1 := HC1.out.blk.cell 1
  go_wp2_with fail
  refine (syn_fail 2 i _).mono ?_
  rintro e w2 ⟨rfl, rfl⟩
  go_wp2_with fail
  exact ⟨rfl, rfl, But.drewN w C m⟩
end Go.Proofs.YthnhbcohfoodlaaGreatDoor

namespace Go.Proofs.YthnhbcohfoodlaaGreatDoor
open Go.RowKit
set_option maxHeartbeats 1600000 in
theorem cur_skip (w : World) (C : Nat) (A : Option Addr) (n c : Nat) (L : List Int) (i : Nat) (h : CurAt w C A n c L i) :
 Calls Tryz.prog 38 #[.pointer (some ⟨C, 0, none⟩)] w fun e w' => e = .returned (.tuple #[]) ∧ CurAt w' C A n c L (skipP L i) ∧ But w C w' := by
 have HC := Lib.hid h
 have hs := h.size
 have hl := h.len
 clear h
 go_enter Tryz.func38, Tryz.ntmps38
 go_wp2_with fail
 go_loopw [2] (fun _ wr => ∃ j, j ≤ n ∧ skipP L i = skipP L j ∧ CurAt wr C A n c L j ∧ But w C wr) (fun _ wr => n - (match wr.cell? ⟨C, 1, none⟩ with | some (.int _ j) => j.toNat | _ => 0))
 case atStart => exact ⟨i, HC.out.le, rfl, HC.out, But.refl _ _⟩
 case round =>
  obtain ⟨j, hj, hsk, hc, hb⟩ := hrel
  have HJ := Lib.hid hc
  have HB := Lib.hid hb
  have HS := Lib.hid hsk
  have HPK := Lib.hid (cur_peek wr C A n c L j hc)
  have hm0 := hc.blk.cell 1
  have HM0 := Lib.hid hm0
  have hw1 : IntKind.i64.wrap ((j : Int) + 1) = ((j + 1 : Nat) : Int) := by rw [wrap_small _ (by omega) (by omega)]; omega
  clear hc hb hsk hm0
  go_wp2_with fail
  refine HPK.out.mono ?_
  rintro e w1 ⟨rfl, m, rfl⟩
  have HC1 := Lib.hid (HJ.out.drewN m)
  go_wp2_with fail
  refine (syn_blank _ _).mono ?_
  rintro e w2 ⟨rfl, rfl⟩
  by_cases hbl : blankB (pk L j) = true
  ·rw [hbl]
   have hlt : j < L.length := pk_lt (fun e => by rw [e] at hbl; exact absurd hbl (by decide))
   have c0 := HC1.out.blk.cell 0
   have c1 := HC1.out.blk.cell 1
   have f1 := HC1.out.blk.frozen 1
   have hmv := HC1.out.move (j := j + 1) (by omega)
   rw [show (((j + 1 : Nat)) : Int) = (j : Int) + 1 by omega] at hmv
   have HMV := Lib.hid hmv
   clear hmv
   go_wp2_with fail
   refine ⟨⟨j + 1, by omega, HS.out.trans (runFrom_in hlt hbl), HMV.out, (HB.out.trans (But.drewN wr C m)).trans (But.set _ C 1 _)⟩, ?_⟩
   have e1 : ((wr.drewN m).setCell ⟨C, 1, none⟩ (.int .i64 ((j : Int) + 1))).cell? ⟨C, 1, none⟩ = some (.int .i64 ((j + 1 : Nat) : Int)) := HMV.out.blk.cell 1
   have e2 : wr.cell? ⟨C, 1, none⟩ = some (.int .i64 (j : Int)) := HM0.out
   rw [e1, e2]
   simp only [Int.toNat_natCast]
   omega
  ·rw [Bool.not_eq_true] at hbl
   rw [hbl]
   go_wp2_with fail
   go_end0
   refine ⟨rfl, ?_, HB.out.trans (But.drewN wr C m)⟩
   rw [HS.out, show skipP L j = j from runFrom_out (fun _ => hbl)]
   exact HC1.out
end Go.Proofs.YthnhbcohfoodlaaGreatDoor

namespace Go.Proofs.YthnhbcohfoodlaaGreatDoor
open Go.RowKit
def runeOk (r : Int) : Prop := r = -1 ∨ Utf8.valid r = true
def specialS : ByteArray := ⟨#[91, 93, 38, 45, 94, 92, 58, 36, 40, 41, 123, 125, 60, 62, 124, 59, 35, 39, 34, 61, 44]⟩
theorem special_any (r : Int) : (specialS.data.toList.any fun b => decide ((b.toNat : Int) = r)) = specialL.contains r := by
 rw [Bool.eq_iff_iff]
 simp [specialS, specialL]
 omega
set_option maxHeartbeats 1600000 in
theorem syn_plain (r : Int) (w : World) (hr : runeOk r) :
 Calls Tryz.prog 128 #[.int .i32 r] w fun e w' => e = .returned (.bool (plainB r)) ∧ Below w.heap.size w w' := by
 have HS := Lib.hid (show Calls Tryz.prog 154 #[.string specialS, .int .i32 r] w fun e w' => e = .returned (.bool (specialL.contains r)) ∧ Below w.heap.size w w' by
  have := contains_rune specialS r w (by decide) (by decide) (by decide) hr
  rw [special_any] at this
  exact this)
 clear hr
 unfold plainB
 by_cases h0 : 0 ≤ r
 ·have hd : decide (0 ≤ r) = true := decide_eq_true h0
  rw [hd]
  cases hb : blankB r
  ·go_enter Tryz.func128, Tryz.ntmps128
   go_wp2_with fail
   refine (syn_blank _ _).mono ?_
   rintro e w1 ⟨rfl, hw⟩
   rw [hw, hb]
   go_wp2_with fail
   refine HS.out.mono ?_
   rintro e w2 ⟨rfl, hb2⟩
   go_wp2_with fail
   go_ret
   exact ⟨by simp, hb2⟩
  ·go_enter Tryz.func128, Tryz.ntmps128
   go_wp2_with fail
   refine (syn_blank _ _).mono ?_
   rintro e w1 ⟨rfl, hw⟩
   rw [hw, hb]
   go_wp2_with fail
   go_ret
   exact ⟨by simp, Below.refl _ _⟩
 ·have hd : decide (0 ≤ r) = false := decide_eq_false h0
  rw [hd]
  go_enter Tryz.func128, Tryz.ntmps128
  go_wp2_with fail
  go_ret
  exact ⟨by simp, Below.refl _ _⟩
end Go.Proofs.YthnhbcohfoodlaaGreatDoor

namespace Go.Proofs.YthnhbcohfoodlaaGreatDoor
open Go.RowKit
def ValidL (L : List Int) : Prop := ∀ x ∈ L, Utf8.valid x = true
theorem ValidL.ok {L : List Int} (h : ValidL L) : RunesOk L := fun x hx => by
 have := h x hx
 simp [Utf8.valid] at this
 omega
theorem ValidL.pk {L : List Int} (h : ValidL L) (i : Nat) : runeOk (pk L i) := by
 unfold Go.Proofs.YthnhbcohfoodlaaGreatDoor.pk
 cases hi : L[i]? with
 | none => exact .inl rfl
 | some x => exact .inr (h x (List.mem_of_getElem? hi))
theorem CurAt.at {w : World} {C : Nat} {A : Option Addr} {n c : Nat} {L : List Int} {i : Nat} (h : CurAt w C A n c L i) (h0 : 0 < n) :
 ∃ b off, A = some ⟨b, off, none⟩ ∧ b < w.heap.size ∧ ∀ j x, L[j]? = some x → w.cell? ⟨b, off + j, none⟩ = some (.int .i32 x) := by
 obtain ⟨b, off, e, _, hb, hc⟩ := h.row.2 h0
 exact ⟨b, off, e, hb, fun j x hx => hc j _ (by rw [runeCells_at, hx]; rfl)⟩
theorem cur_text {w : World} {C : Nat} {b off n c : Nat} {L : List Int} {k : Nat} (h : CurAt w C (some ⟨b, off, none⟩) n c L k) {i j : Nat} (hij : i ≤ j) (hj : j ≤ n) :
 (convert 61 9 (.slice (if c = i then some ⟨b, off, none⟩ else some ⟨b, off + i, none⟩) (j - i) (c - i))).run Tryz.prog w = .ok (.string (runesBytes (textAt L i j))) w := by
 have hlen := h.len
 have hcap := h.cap
 by_cases hn : 0 < n
 ·obtain ⟨b', off', e, _, hc⟩ := h.at hn
  cases e
  have key : ∀ (o : Nat), o = off + i ∨ j - i = 0 → (convert 61 9 (.slice (some ⟨b, o, none⟩) (j - i) (c - i))).run Tryz.prog w = .ok (.string (runesBytes (textAt L i j))) w := by
   intro o ho
   rcases ho with rfl | ho
   ·have := run_convert_runes (P := Tryz.prog) w 61 9 21 ⟨b, off + i, none⟩ (j - i) (c - i) (textAt L i j) (by unfold textAt; rw [List.length_take, List.length_drop]; omega) Tryz.underlying61 Tryz.underlying21 Tryz.underlying9 (fun q hq => by
     rw [add_at, Nat.add_assoc]
     unfold textAt at hq ⊢
     rw [List.length_take, List.length_drop] at hq
     refine hc (i + q) _ ?_
     rw [List.getD_eq_getElem?_getD, List.getElem?_take_of_lt (by omega), List.getElem?_drop]
     rw [List.getElem?_eq_getElem (by omega)]
     rfl)
    rw [show (textAt L i j).take (j - i) = textAt L i j from List.take_of_length_le (by unfold textAt; rw [List.length_take]; omega)] at this
    exact this
   ·have := run_convert_runes (P := Tryz.prog) w 61 9 21 ⟨b, o, none⟩ (j - i) (c - i) [] (by rw [ho]; simp) Tryz.underlying61 Tryz.underlying21 Tryz.underlying9 (fun q hq => by simp at hq)
    rw [show ([] : List Int).take (j - i) = textAt L i j by unfold textAt; rw [ho]; simp] at this
    exact this
  split
  ·exact key _ (.inr (by omega))
  ·exact key _ (.inl rfl)
 ·have := run_convert_runes (P := Tryz.prog) w 61 9 21 (if c = i then ⟨b, off, none⟩ else ⟨b, off + i, none⟩) (j - i) (c - i) [] (by rw [show j - i = 0 by omega]; simp) Tryz.underlying61 Tryz.underlying21 Tryz.underlying9 (fun q hq => by simp at hq)
  have e : (if c = i then some (⟨b, off, none⟩ : Addr) else some ⟨b, off + i, none⟩) = some (if c = i then (⟨b, off, none⟩ : Addr) else ⟨b, off + i, none⟩) := by split <;> rfl
  rw [show ([] : List Int).take (j - i) = textAt L i j by unfold textAt; rw [show j - i = 0 by omega]; simp] at this
  rw [e]
  exact this
def CharPost (w : World) (C : Nat) (A : Option Addr) (n c : Nat) (L : List Int) (r : Rdg Int) (e : Ending) (w' : World) : Prop :=
 match r with
 | .ok (x, j) => e = .returned (.int .i32 x) ∧ CurAt w' C A n c L j ∧ But w C w'
 | .error (x, p) => e = thrown x p ∧ But w C w'
def hexS : ByteArray := ⟨#[48, 49, 50, 51, 52, 53, 54, 55, 56, 57, 97, 98, 99, 100, 101, 102, 65, 66, 67, 68, 69, 70]⟩
theorem hex_any (r : Int) : (hexS.data.toList.any fun b => decide ((b.toNat : Int) = r)) = hexB r := by
 rw [Bool.eq_iff_iff]
 simp [hexS, hexB]
 omega
theorem hex_contains (r : Int) (w : World) (hr : runeOk r) :
 Calls Tryz.prog 154 #[.string hexS, .int .i32 r] w fun e w' => e = .returned (.bool (hexB r)) ∧ Below w.heap.size w w' := by
 have := contains_rune hexS r w (by decide) (by decide) (by decide) hr
 rw [hex_any] at this
 exact this
theorem CurAt.below {w w' : World} {C : Nat} {A : Option Addr} {n c : Nat} {L : List Int} {i : Nat} (h : CurAt w C A n c L i) (hb : Below w.heap.size w w') : CurAt w' C A n c L i :=
 ⟨h.blk.below hb h.blk.lt, h.row.keep (Keeps.any hb), h.size, h.le, h.cap⟩
theorem hexP_e1 {L : List Int} {i : Nat} {e : Int × Nat} (h : needP L (i + 1) 123 = .error e) : hexP L i = .error e := by unfold hexP; rw [h]
theorem hexP_e2 {L : List Int} {i a r : Nat} (h : needP L (i + 1) 123 = .ok a) (hr : r = runFrom hexB L a) (hb : r - a < 1 ∨ 6 < r - a) : hexP L i = .error (2, a) := by
 subst hr; unfold hexP; rw [h]; simp only; rw [if_pos hb]
theorem hexP_e3 {L : List Int} {i a r : Nat} {e : Int × Nat} (h : needP L (i + 1) 123 = .ok a) (hr : r = runFrom hexB L a) (hb : ¬ (r - a < 1 ∨ 6 < r - a)) (h2 : needP L r 125 = .error e) : hexP L i = .error e := by
 subst hr; unfold hexP; rw [h]; simp only; rw [if_neg hb, h2]
theorem hexP_e4 {L : List Int} {i a r k : Nat} (h : needP L (i + 1) 123 = .ok a) (hr : r = runFrom hexB L a) (hb : ¬ (r - a < 1 ∨ 6 < r - a)) (h2 : needP L r 125 = .ok k) (h3 : 1114111 < hexVal (textAt L a r)) : hexP L i = .error (3, i) := by
 subst hr; unfold hexP; rw [h]; simp only; rw [if_neg hb, h2]; simp only; rw [if_pos h3]
theorem hexP_k {L : List Int} {i a r k : Nat} (h : needP L (i + 1) 123 = .ok a) (hr : r = runFrom hexB L a) (hb : ¬ (r - a < 1 ∨ 6 < r - a)) (h2 : needP L r 125 = .ok k) (h3 : ¬ 1114111 < hexVal (textAt L a r)) : hexP L i = .ok (hexVal (textAt L a r), k) := by
 subst hr; unfold hexP; rw [h]; simp only; rw [if_neg hb, h2]; simp only; rw [if_neg h3]
def HxRel (w : World) (C : Nat) (A : Option Addr) (n c : Nat) (L : List Int) (a r : Nat) (wr : World) : Prop :=
 ∃ j, a ≤ j ∧ j ≤ n ∧ r = runFrom hexB L j ∧ CurAt wr C A n c L j ∧ But w C wr
set_option maxHeartbeats 3200000 in
set_option maxRecDepth 100000 in
theorem cur_hex (w : World) (C : Nat) (A : Option Addr) (n c : Nat) (L : List Int) (i : Nat) (h : CurAt w C A n c L i) (hL : ValidL L) (hi : i < n) :
 Calls Tryz.prog 162 #[.pointer (some ⟨C, 0, none⟩)] w (CharPost w C A n c L (hexP L i)) := by
 have hs := h.size
 have hlen := h.len
 obtain ⟨b, off, rfl, _, _⟩ := h.at (by omega)
 have HL := Lib.hid hL
 have c0 := h.blk.cell 0
 have c1 := h.blk.cell 1
 have f1 := h.blk.frozen 1
 have hw1 : IntKind.i64.wrap ((i : Int) + 1) = ((i + 1 : Nat) : Int) := by rw [wrap_small _ (by omega) (by omega)]; omega
 have hm := h.move (j := i + 1) (by omega)
 have hB1 := But.set w C 1 (.int .i64 ((i + 1 : Nat) : Int))
 rw [show (((i + 1 : Nat)) : Int) = (i : Int) + 1 by omega] at hm hB1
 have HM := Lib.hid hm
 have HB1 := Lib.hid hB1
 clear hL hm h hB1
 obtain ⟨R, hR⟩ : ∃ R, hexP L i = R := ⟨_, rfl⟩
 rw [hR]
 have HR0 := Lib.hid hR
 clear hR
 cases hn : needP L (i + 1) 123 with
 | error e0 =>
   obtain ⟨x, p⟩ := e0
   have HN := Lib.hid (cur_need _ C _ n c L (i + 1) 123 HM.out (by decide))
   rw [hn] at HN
   go_enter Tryz.func162, Tryz.ntmps162
   go_wp2_with fail
   refine HN.out.mono ?_
   rintro e w1 ⟨he, hb⟩
   unfold thrown at he
   subst he
   have HBX := Lib.hid (HB1.out.trans hb)
   clear hb HN
   go_wp2_with fail
   rw [show R = _ from HR0.out.symm.trans (hexP_e1 hn)]
   exact ⟨rfl, rfl, HBX.out⟩
 | ok a =>
   have HN0 := Lib.hid hn
   obtain ⟨rfl, hpk⟩ := needP_ok hn
   have HN := Lib.hid (cur_need _ C _ n c L (i + 1) 123 HM.out (by decide))
   rw [hn] at HN
   have hi1 : i + 1 < n := by rw [← hlen]; exact pk_lt (by rw [hpk]; decide)
   clear hn
   generalize ha : i + 1 + 1 = a at *
   have HRA := Lib.hid (textAt_run hexB L a)
   generalize hr : runFrom hexB L a = r at *
   have HRR := Lib.hid hr.symm
   clear hr
   go_enter Tryz.func162, Tryz.ntmps162
   go_wp2_with fail
   refine HN.out.mono ?_
   rintro e w1 ⟨rfl, hc, hb⟩
   have HC := Lib.hid hc
   have HB2 := Lib.hid (HB1.out.trans hb)
   have g0 := hc.blk.cell 0
   have g1 := hc.blk.cell 1
   clear hb hc HN HB1 HM
   go_wp2_with fail
   go_loopw [25] (fun _ wr => HxRel w C (some ⟨b, off, none⟩) n c L a r wr) (fun _ wr => n - (match wr.cell? ⟨C, 1, none⟩ with | some (.int _ j) => j.toNat | _ => 0))
   case atStart => exact ⟨a, Nat.le_refl _, HC.out.le, HRR.out, HC.out, HB2.out⟩
   case round =>
    obtain ⟨j, haj, hj, hrun, hcj, hbj⟩ := hrel
    have HJ := Lib.hid hcj
    have HB := Lib.hid hbj
    have HR := Lib.hid hrun
    have HPK := Lib.hid (fun (W : World) (h : CurAt W C (some ⟨b, off, none⟩) n c L j) => cur_peek W C (some ⟨b, off, none⟩) n c L j h)
    have HM0 := Lib.hid (hcj.blk.cell 1)
    have hok := HL.out.pk j
    have HHX := Lib.hid (fun (W : World) => hex_contains (pk L j) W hok)
    clear hcj hbj hrun
    by_cases hhx : hexB (pk L j) = true
    ·rw [hhx] at HHX
     have hlt : j < L.length := pk_lt (fun e => by rw [e] at hhx; exact absurd hhx (by decide))
     have h0 : 0 ≤ pk L j := (hex_ascii (l := [pk L j]) (by simpa using hhx) _ (by simp)).1
     have hg : decide (0 ≤ pk L j) = true := decide_eq_true h0
     have hw2 : IntKind.i64.wrap ((j : Int) + 1) = ((j + 1 : Nat) : Int) := by rw [wrap_small _ (by omega) (by omega)]; omega
     go_wp2_with fail
     refine (HPK.out _ HJ.out).mono ?_
     rintro e w2 ⟨rfl, m, rfl⟩
     go_wp2_with fail
     refine (HHX.out _).mono ?_
     rintro e w3 ⟨rfl, hb3⟩
     have HJ3 := Lib.hid ((HJ.out.drewN m).below hb3)
     have HB3 := Lib.hid ((HB.out.trans (But.drewN wr C m)).trans (But.below C hb3))
     clear hb3
     go_wp2_with fail
     refine (HPK.out _ HJ3.out).mono ?_
     rintro e w4 ⟨rfl, m2, rfl⟩
     have HC1 := Lib.hid (HJ3.out.drewN m2)
     have d0 := HC1.out.blk.cell 0
     have d1 := HC1.out.blk.cell 1
     have f2 := HC1.out.blk.frozen 1
     have hmv := HC1.out.move (j := j + 1) (by omega)
     rw [show (((j + 1 : Nat)) : Int) = (j : Int) + 1 by omega] at hmv
     have HMV := Lib.hid hmv
     clear hmv
     go_wp2_with fail
     refine ⟨⟨j + 1, by omega, by omega, HR.out.trans (runFrom_in hlt hhx), HMV.out, (HB3.out.trans (But.drewN w3 C m2)).trans (But.set _ C 1 _)⟩, ?_⟩
     have e1 : ((w3.drewN m2).setCell ⟨C, 1, none⟩ (.int .i64 ((j : Int) + 1))).cell? ⟨C, 1, none⟩ = some (.int .i64 ((j + 1 : Nat) : Int)) := HMV.out.blk.cell 1
     have e2 : wr.cell? ⟨C, 1, none⟩ = some (.int .i64 (j : Int)) := HM0.out
     rw [e1, e2]
     simp only [Int.toNat_natCast]
     omega
    ·rw [Bool.not_eq_true] at hhx
     rw [hhx] at HHX
     obtain rfl : r = j := HR.out.trans (runFrom_out (fun _ => hhx))
     clear HR
     go_wp2_with fail
     refine (HPK.out _ HJ.out).mono ?_
     rintro e w2 ⟨rfl, m, rfl⟩
     go_wp2_with fail
     refine (HHX.out _).mono ?_
     rintro e w3 ⟨rfl, hb3⟩
     have HJ3 := Lib.hid ((HJ.out.drewN m).below hb3)
     have HB3 := Lib.hid ((HB.out.trans (But.drewN wr C m)).trans (But.below C hb3))
     clear hb3
     have d0 := HJ3.out.blk.cell 0
     have d1 := HJ3.out.blk.cell 1
     have hcv := fun q => cur_text (HJ3.out.drewN q) haj hj
     have hk1 : (a : Int) ≤ (r : Int) := by omega
     have hk2 : (r : Int) ≤ (c : Int) := by have := HJ3.out.cap; omega
     have hk3 : (0 : Int) ≤ (a : Int) := by omega
     have hds : ∀ d ∈ textAt L a r, hexB d = true := by rw [HRA.out]; exact takeWhile_all _
     have HDS := Lib.hid hds
     have hlenT : (textAt L a r).length = r - a := by unfold textAt; rw [List.length_take, List.length_drop]; omega
     have hsz : (runesBytes (textAt L a r)).size = r - a := by rw [runesBytes_size (hex_ascii hds), hlenT]
     have HTX := Lib.hid (runesBytes_ascii (hex_ascii hds))
     generalize runesBytes (textAt L a r) = s at *
     clear hds
     go_wp2_with fail
     go_quiet (fail)
     have HJQ := Lib.hid (HJ3.out.drewN nq)
     have HBQ := Lib.hid (HB3.out.trans (But.drewN w3 C nq))
     generalize w3.drewN nq = wq at HJQ HBQ ⊢
     generalize (if c = a then some ({ block := b, off := off } : Addr) else some { block := b, off := off + a }) = Z
     clear hcv d0 d1 HJ3 HB3 HJ HB HM0 hk1 hk2 hk3
     rcases (show r - a < 1 ∨ 6 < r - a ∨ (1 ≤ r - a ∧ r - a ≤ 6) by omega) with hbad | hbad | ⟨hr1, hr6⟩
     ·have hz : s.size = 0 := by omega
      have HF := Lib.hid (fun (W : World) => syn_fail 2 a W)
      go_wp2_with fail
      refine (HF.out _).mono ?_
      rintro e w5 ⟨rfl, rfl⟩
      go_wp2_with fail
      rw [show R = _ from HR0.out.symm.trans (hexP_e2 HN0.out HRR.out (.inl hbad))]
      exact ⟨rfl, rfl, HBQ.out⟩
     ·have HF := Lib.hid (fun (W : World) => syn_fail 2 a W)
      have hq1 : decide ((s.size : Int) < 1) = false := decide_eq_false (by omega)
      have hq2 : decide ((6 : Int) < (s.size : Int)) = true := decide_eq_true (by omega)
      go_wp2_with fail
      refine (HF.out _).mono ?_
      rintro e w5 ⟨rfl, rfl⟩
      go_wp2_with fail
      rw [show R = _ from HR0.out.symm.trans (hexP_e2 HN0.out HRR.out (.inr hbad))]
      exact ⟨rfl, rfl, HBQ.out⟩
     ·have hq1 : decide ((s.size : Int) < 1) = false := decide_eq_false (by omega)
      have hq2 : decide ((6 : Int) < (s.size : Int)) = false := decide_eq_false (by omega)
      have HN := Lib.hid (cur_need wq C _ n c L r 125 HJQ.out (by decide))
      have HIF := Lib.hid (show ¬ (r - a < 1 ∨ 6 < r - a) by omega)
      cases hn2 : needP L r 125 with
      | error e0 =>
        obtain ⟨x, p⟩ := e0
        rw [hn2] at HN
        go_wp2_with fail
        refine HN.out.mono ?_
        rintro e w5 ⟨he, hb⟩
        unfold thrown at he
        subst he
        have HBX := Lib.hid (HBQ.out.trans hb)
        clear hb HN
        go_wp2_with fail
        rw [show R = _ from HR0.out.symm.trans (hexP_e3 HN0.out HRR.out HIF.out hn2)]
        exact ⟨rfl, rfl, HBX.out⟩
      | ok k =>
        rw [hn2] at HN
        have HN2 := Lib.hid hn2
        obtain ⟨x0, x1⟩ := hexVal_small (l := textAt L a r) HDS.out (by omega)
        have HPI := Lib.hid (fun (W : World) => parse_int s (textAt L a r) W HTX.out HDS.out (by omega) (by omega))
        generalize hX : hexVal (textAt L a r) = X at *
        have HXX := Lib.hid hX
        clear hX hn2
        go_wp2_with fail
        refine HN.out.mono ?_
        rintro e w5 ⟨rfl, hc5, hb5⟩
        have HC5 := Lib.hid hc5
        have HB5 := Lib.hid (HBQ.out.trans hb5)
        clear hc5 hb5
        go_wp2_with fail
        refine (HPI.out _).mono ?_
        rintro e w6 ⟨rfl, hb6⟩
        have HC6 := Lib.hid (HC5.out.below hb6)
        have HB6 := Lib.hid (HB5.out.trans (But.below C hb6))
        clear hb6
        by_cases hbig : 1114111 < X
        ·have HF := Lib.hid (fun (W : World) => syn_fail 3 i W)
         go_wp2_with fail
         refine (HF.out _).mono ?_
         rintro e w7 ⟨rfl, rfl⟩
         go_wp2_with fail
         rw [show R = _ from HR0.out.symm.trans (hexP_e4 HN0.out HRR.out HIF.out HN2.out (by rw [HXX.out]; exact hbig))]
         exact ⟨rfl, rfl, HB6.out⟩
        ·have hwx : IntKind.i32.wrap X = X := IntWalk.i32_in _ (by omega)
         go_wp2_with fail
         go_ret
         rw [show R = _ from HR0.out.symm.trans (hexP_k HN0.out HRR.out HIF.out HN2.out (by rw [HXX.out]; omega)), HXX.out]
         exact ⟨rfl, HC6.out, HB6.out⟩
end Go.Proofs.YthnhbcohfoodlaaGreatDoor
