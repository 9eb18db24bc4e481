/- Skip goes over blanks; Plain. -/
import Derived.Test.YthnhbcohfoodlaaGreatDoorCurFail
namespace Go.Proofs.YthnhbcohfoodlaaGreatDoor
open Go.RowKit

set_option maxHeartbeats 1600000 in
theorem cur_skip (w : World) (C : Nat) (A : Option Addr) (n c : Nat) (L : List Int) (i : Nat) (h : CurAt w C A n c L i) :
    Calls Tryz.prog 38 #[.pointer (some ⟨C, 0, none⟩)] w fun e w' => e = .returned (.tuple #[]) ∧ CurAt w' C A n c L (skipP L i) ∧ But w C w' := by
  have HC := Lib.hid h
  have hs := h.size
  have hl := h.len
  clear h
  go_enter Tryz.func38, Tryz.ntmps38
  go_wp2_with fail
  go_loopw [2] (fun _ wr => ∃ j, j ≤ n ∧ skipP L i = skipP L j ∧ CurAt wr C A n c L j ∧ But w C wr) (fun _ wr => n - (match wr.cell? ⟨C, 1, none⟩ with | some (.int _ j) => j.toNat | _ => 0))
  case atStart => exact ⟨i, HC.out.le, rfl, HC.out, But.refl _ _⟩
  case round =>
    obtain ⟨j, hj, hsk, hc, hb⟩ := hrel
    have HJ := Lib.hid hc
    have HB := Lib.hid hb
    have HS := Lib.hid hsk
    have HPK := Lib.hid (cur_peek wr C A n c L j hc)
    have hm0 := hc.blk.cell 1
    have HM0 := Lib.hid hm0
    have hw1 : IntKind.i64.wrap ((j : Int) + 1) = ((j + 1 : Nat) : Int) := by rw [wrap_small _ (by omega) (by omega)]; omega
    clear hc hb hsk hm0
    go_wp2_with fail
    refine HPK.out.mono ?_
    rintro e w1 ⟨rfl, m, rfl⟩
    have HC1 := Lib.hid (HJ.out.drewN m)
    go_wp2_with fail
    refine (syn_blank _ _).mono ?_
    rintro e w2 ⟨rfl, rfl⟩
    by_cases hbl : blankB (pk L j) = true
    · rw [hbl]
      have hlt : j < L.length := pk_lt (fun e => by rw [e] at hbl; exact absurd hbl (by decide))
      have c0 := HC1.out.blk.cell 0
      have c1 := HC1.out.blk.cell 1
      have f1 := HC1.out.blk.frozen 1
      have hmv := HC1.out.move (j := j + 1) (by omega)
      rw [show (((j + 1 : Nat)) : Int) = (j : Int) + 1 by omega] at hmv
      have HMV := Lib.hid hmv
      clear hmv
      go_wp2_with fail
      refine ⟨⟨j + 1, by omega, HS.out.trans (runFrom_in hlt hbl), HMV.out, (HB.out.trans (But.drewN wr C m)).trans (But.set _ C 1 _)⟩, ?_⟩
      have e1 : ((wr.drewN m).setCell ⟨C, 1, none⟩ (.int .i64 ((j : Int) + 1))).cell? ⟨C, 1, none⟩ = some (.int .i64 ((j + 1 : Nat) : Int)) := HMV.out.blk.cell 1
      have e2 : wr.cell? ⟨C, 1, none⟩ = some (.int .i64 (j : Int)) := HM0.out
      rw [e1, e2]
      simp only [Int.toNat_natCast]
      omega
    · rw [Bool.not_eq_true] at hbl
      rw [hbl]
      go_wp2_with fail
      go_end0
      refine ⟨rfl, ?_, HB.out.trans (But.drewN wr C m)⟩
      rw [HS.out, show skipP L j = j from runFrom_out (fun _ => hbl)]
      exact HC1.out

end Go.Proofs.YthnhbcohfoodlaaGreatDoor
