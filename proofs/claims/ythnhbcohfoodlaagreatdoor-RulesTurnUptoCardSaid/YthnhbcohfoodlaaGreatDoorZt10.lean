/- SpanInfo + SetSame -/
import Derived.Test.YthnhbcohfoodlaaGreatDoorZt8
namespace Go.Proofs.YthnhbcohfoodlaaGreatDoor
open Go.RowKit
theorem infoSpan : (Tryz.prog.info? 74).map (fun i => (i.zero, i.size, i.bytes)) = some (some (.agg #[.int .i32 0, .int .i32 0]), 2, 8) := by kernel_rfl
theorem span_one (x y : Int) : ∀ u ∈ [Value.int .i32 x, .int .i32 y], u.oneCell' = true := by
 intro u hu; simp at hu; rcases hu with rfl | rfl <;> rfl
theorem spanCells_snoc (l : Spans) (x y : Int) : spanCells (l ++ [(x, y)]) = spanCells l ++ [.int .i32 x, .int .i32 y] := by simp [spanCells]
theorem spanCells_one (l : Spans) : ∀ u ∈ spanCells l, u.oneCell' = true := by
 intro u hu
 simp only [spanCells, List.mem_flatMap] at hu
 obtain ⟨x, _, hu⟩ := hu
 simp at hu
 rcases hu with rfl | rfl <;> rfl
theorem spanCells_app2 (a b : Spans) : spanCells (a ++ b) = spanCells a ++ spanCells b := by simp [spanCells]
theorem spanCells_append (a b : Spans) : spanCells (a ++ b) = spanCells a ++ spanCells b := by simp [spanCells]
end Go.Proofs.YthnhbcohfoodlaaGreatDoor

namespace Go.Proofs.YthnhbcohfoodlaaGreatDoor
open Go.RowKit
set_option maxHeartbeats 800000 in
theorem set_same (A C : Option Addr) (n m c d : Nat) (s : Spans) (w : World) (B B' : Nat) (hn : n ≤ 9223372036854775807) (hx : RdS w B A n s) (hy : RdS w B' C m s) :
 Calls Tryz.prog 12 #[.slice A n c, .slice C m d] w fun e w' => e = .returned (.bool true) ∧ ∃ k, w' = w.drewN k := by
 obtain rfl : n = m := by rw [← hx.len, ← hy.len]
 have HX := Lib.hid hx
 have HY := Lib.hid hy
 have HL := Lib.hid hx.len
 clear hx hy
 go_enter Tryz.func12, Tryz.ntmps12
 go_wp2
 go_loopw [13] (fun i wr => ∃ k q : Nat, k ≤ n ∧ i = .int .i64 k ∧ wr = w.drewN q) (fun i _ => n - (intOf i).toNat)
 case atStart => exact ⟨0, 0, Nat.zero_le _, rfl, rfl⟩
 case round =>
  obtain ⟨k, q, hk, rfl, rfl⟩ := hrel
  by_cases hlt : k < n
  ·obtain ⟨⟨x, y⟩, hz⟩ : ∃ z, s[k]? = some z := ⟨_, List.getElem?_eq_getElem (by rw [HL.out]; exact hlt)⟩
   obtain ⟨b1, o1, rfl, hb1, c0, c1⟩ := HX.out.at hz
   obtain ⟨b2, o2, rfl, hb2, d0, d1⟩ := HY.out.at hz
   clear hz
   go_wp2
   go_quiet (fail)
   go_wp2
   refine ⟨⟨k + 1, _, by omega, by go_num, rfl⟩, by simp [intOf]; omega⟩
  ·obtain rfl : k = n := by omega
   go_wp2
   go_ret
   exact ⟨rfl, _, rfl⟩
end Go.Proofs.YthnhbcohfoodlaaGreatDoor
