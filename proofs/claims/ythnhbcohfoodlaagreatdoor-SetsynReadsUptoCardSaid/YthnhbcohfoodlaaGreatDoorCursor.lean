/- The cursor of setsyn: how it lies in memory; Look, Peek. -/
import Derived.Test.YthnhbcohfoodlaaGreatDoorRuneIn
import Derived.Test.YthnhbcohfoodlaaGreatDoorEdgesBoth
namespace Go.Proofs.YthnhbcohfoodlaaGreatDoor
open Go.RowKit

/-- Block g is just the cells cs, whatever their type's name is. -/
def BlkA (w : World) (g : Nat) (cs : Array Value) : Prop := ∃ t, Blk w g t cs
section
variable {w w' : World} {g : Nat} {cs : Array Value}
theorem BlkA.lt (h : BlkA w g cs) : g < w.heap.size := let ⟨_, hb⟩ := h; hb.lt
theorem BlkA.cell (h : BlkA w g cs) (i : Nat) : w.cell? ⟨g, i, none⟩ = cs[i]? := let ⟨_, hb⟩ := h; hb.cell i
theorem BlkA.frozen (h : BlkA w g cs) (i : Nat) : w.frozen? ⟨g, i, none⟩ = false := let ⟨_, hb⟩ := h; hb.frozen i
theorem BlkA.drewN (h : BlkA w g cs) (n : Nat) : BlkA (w.drewN n) g cs := h
theorem BlkA.put (h : BlkA w g cs) (i : Nat) (u : Value) : BlkA (w.setCell ⟨g, i, none⟩ u) g (cs.setIfInBounds i u) := let ⟨t, hb⟩ := h; ⟨t, hb.put i u⟩
theorem BlkA.below {B : Nat} (h : BlkA w g cs) (hb : Below B w w') (hg : g < B) : BlkA w' g cs := let ⟨t, hc⟩ := h; ⟨t, hc.below hb hg⟩
theorem BlkA.same (h : BlkA w g cs) (he : w'.heap[g]? = w.heap[g]?) : BlkA w' g cs := let ⟨t, hc⟩ := h; ⟨t, he.trans hc⟩
end
/-- A cursor over the runes L, at i. -/
structure CurAt (w : World) (C : Nat) (A : Option Addr) (n c : Nat) (L : List Int) (i : Nat) : Prop where
  blk : BlkA w C #[.slice A n c, .int .i64 i]
  row : RdX w (fun b => b ≠ C) 1 A n (runeCells L)
  size : n ≤ 4611686018427387904
  le : i ≤ n
  cap : n ≤ c
theorem CurAt.len {w : World} {C : Nat} {A : Option Addr} {n c : Nat} {L : List Int} {i : Nat} (h : CurAt w C A n c L i) : L.length = n := by
  have := h.row.1; rw [runeCells_length] at this; omega
theorem CurAt.drewN {w : World} {C : Nat} {A : Option Addr} {n c : Nat} {L : List Int} {i : Nat} (h : CurAt w C A n c L i) (k : Nat) : CurAt (w.drewN k) C A n c L i :=
  ⟨h.blk.drewN k, h.row.keep (Keeps.any (below_drewN (Below.refl _ _) k)), h.size, h.le, h.cap⟩

set_option maxHeartbeats 1600000 in
theorem cur_look (w : World) (C : Nat) (A : Option Addr) (n c : Nat) (L : List Int) (i k : Nat) (h : CurAt w C A n c L i) (hk : k ≤ 1000) :
    Calls Tryz.prog 77 #[.pointer (some ⟨C, 0, none⟩), .int .i64 k] w fun e w' => e = .returned (.int .i32 (pk L (i + k))) ∧ ∃ m, w' = w.drewN m := by
  have c0 := h.blk.cell 0
  have c1 := h.blk.cell 1
  have hl := h.len
  have hs := h.size
  have hi := h.le
  have hw1 : IntKind.i64.wrap ((i : Int) + k) = ((i + k : Nat) : Int) := by rw [wrap_small _ (by omega) (by omega)]; omega
  by_cases hlt : i + k < n
  · obtain ⟨x, hx⟩ : ∃ x, L[i + k]? = some x := ⟨_, List.getElem?_eq_getElem (by omega)⟩
    rw [pk_at hx]
    obtain ⟨b, o, rfl, _, _, hc⟩ := h.row.2 (by omega)
    have d0 : w.cell? ⟨b, o + (i + k), none⟩ = some (.int .i32 x) := hc _ _ (by simp [runeCells, hx])
    have hg : decide ((n : Int) ≤ ((i + k : Nat) : Int)) = false := decide_eq_false (by omega)
    have hk0 : (0 : Int) ≤ ((i + k : Nat) : Int) := by omega
    have hk1 : ((i + k : Nat) : Int) < (n : Int) := by omega
    clear hc h hx hl
    go_enter Tryz.func77, Tryz.ntmps77
    go_wp2_with fail
    go_quiet (fail)
    go_wp2_with fail
    go_quiet (fail)
    go_wp2_with fail
    go_ret
    exact ⟨rfl, _, by rw [World.drewN_drewN]⟩
  · rw [pk_end (by omega)]
    have hg : decide ((n : Int) ≤ ((i + k : Nat) : Int)) = true := decide_eq_true (by omega)
    clear h hl
    go_enter Tryz.func77, Tryz.ntmps77
    go_wp2_with fail
    go_quiet (fail)
    go_wp2_with fail
    go_ret
    exact ⟨rfl, _, rfl⟩

theorem cur_peek (w : World) (C : Nat) (A : Option Addr) (n c : Nat) (L : List Int) (i : Nat) (h : CurAt w C A n c L i) :
    Calls Tryz.prog 57 #[.pointer (some ⟨C, 0, none⟩)] w fun e w' => e = .returned (.int .i32 (pk L i)) ∧ ∃ m, w' = w.drewN m := by
  have HL := Lib.hid (show Calls Tryz.prog 77 #[.pointer (some ⟨C, 0, none⟩), .int .i64 0] w fun e w' => e = .returned (.int .i32 (pk L i)) ∧ ∃ m, w' = w.drewN m from cur_look w C A n c L i 0 h (Nat.zero_le _))
  clear h
  go_enter Tryz.func57, Tryz.ntmps57
  go_wp2_with fail
  refine HL.out.mono ?_
  rintro e w1 ⟨rfl, hm⟩
  go_wp2_with fail
  go_ret
  exact ⟨rfl, hm⟩

end Go.Proofs.YthnhbcohfoodlaaGreatDoor
