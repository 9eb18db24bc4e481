/- setsyn.Fail throws; blank; Need. -/
import Derived.Test.YthnhbcohfoodlaaGreatDoorCursor
namespace Go.Proofs.YthnhbcohfoodlaaGreatDoor
open Go.RowKit

theorem syn_fail (e p : Int) (w : World) :
    Calls Tryz.prog 37 #[.int .i64 e, .int .i64 p] w fun en w' => en = .panicked [{ v := .iface 126 (.agg #[.int .i64 e, .int .i64 p]), recovered := false }] ∧ w' = w := by
  go_enter Tryz.func37, Tryz.ntmps37
  go_wp2_with fail
  exact ⟨rfl, rfl, rfl⟩
theorem syn_blank (r : Int) (w : World) :
    Calls Tryz.prog 75 #[.int .i32 r] w fun e w' => e = .returned (.bool (blankB r)) ∧ w' = w := by
  go_enter Tryz.func75, Tryz.ntmps75
  go_wp2
  all_goals go_ret
  all_goals refine ⟨ret_bool ?_, rfl⟩
  all_goals (rw [Bool.eq_iff_iff]; simp [blankB]; try omega)
/-- What Fail leaves. -/
def thrown (e p : Int) : Ending := .panicked [{ v := .iface 126 (.agg #[.int .i64 e, .int .i64 p]), recovered := false }]
/-- The cursor goes on. -/
theorem CurAt.move {w : World} {C : Nat} {A : Option Addr} {n c : Nat} {L : List Int} {i j : Nat} (h : CurAt w C A n c L i) (hj : j ≤ n) : CurAt (w.setCell ⟨C, 1, none⟩ (.int .i64 j)) C A n c L j :=
  ⟨h.blk.put 1 _, h.row.keep (Keeps.setCell (p := ⟨C, 1, none⟩) _ (fun _ hb => hb) (fun _ h _ => h)), h.size, hj, h.cap⟩

set_option maxHeartbeats 1600000 in
theorem cur_need (w : World) (C : Nat) (A : Option Addr) (n c : Nat) (L : List Int) (i : Nat) (r : Int) (h : CurAt w C A n c L i) (hr : r ≠ -1) :
    Calls Tryz.prog 59 #[.pointer (some ⟨C, 0, none⟩), .int .i32 r] w fun e w' =>
      match needP L i r with
      | .ok j => e = .returned (.tuple #[]) ∧ CurAt w' C A n c L j ∧ But w C w'
      | .error (x, p) => e = thrown x p ∧ But w C w' := by
  have HPK := Lib.hid (cur_peek w C A n c L i h)
  have HC := Lib.hid h
  have hs := h.size
  have hi := h.le
  have hl := h.len
  have hw1 : IntKind.i64.wrap ((i : Int) + 1) = ((i + 1 : Nat) : Int) := by rw [wrap_small _ (by omega) (by omega)]; omega
  clear h
  unfold needP
  by_cases he : pk L i = r
  · have hlt : i < L.length := pk_lt (by omega)
    rw [if_pos he]
    have hg : decide (pk L i = r) = true := decide_eq_true he
    go_enter Tryz.func59, Tryz.ntmps59
    go_wp2_with fail
    refine HPK.out.mono ?_
    rintro e w1 ⟨rfl, m, rfl⟩
    have HC1 := Lib.hid (HC.out.drewN m)
    have c0 := HC1.out.blk.cell 0
    have c1 := HC1.out.blk.cell 1
    have f1 := HC1.out.blk.frozen 1
    go_wp2_with fail
    have hm := HC1.out.move (j := i + 1) (by omega)
    rw [show (((i + 1 : Nat)) : Int) = (i : Int) + 1 by omega] at hm
    go_end0
    exact ⟨rfl, hm, (But.drewN w C m).trans (But.set _ C 1 _)⟩
  · rw [if_neg he]
    go_enter Tryz.func59, Tryz.ntmps59
    go_wp2_with fail
    refine HPK.out.mono ?_
    rintro e w1 ⟨rfl, m, rfl⟩
    have HC1 := Lib.hid (HC.out.drewN m)
    have c0 := HC1.out.blk.cell 0
    have c1 := HC1.out.blk.cell 1
    go_wp2_with fail
    refine (syn_fail 2 i _).mono ?_
    rintro e w2 ⟨rfl, rfl⟩
    go_wp2_with fail
    exact ⟨rfl, rfl, But.drewN w C m⟩

end Go.Proofs.YthnhbcohfoodlaaGreatDoor
