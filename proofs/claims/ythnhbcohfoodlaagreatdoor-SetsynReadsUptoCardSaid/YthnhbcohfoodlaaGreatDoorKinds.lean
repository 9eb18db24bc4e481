/- Lists of runes, and of numbers, that a call owns: words over rows of the call's own memory. -/
import Derived.Test.YthnhbcohfoodlaaGreatDoorAppend
import Derived.Test.YthnhbcohfoodlaaGreatDoorRows
namespace Go.Proofs.YthnhbcohfoodlaaGreatDoor
open Go.RowKit

/-- A list of runes that the call owns from block base on. -/
def OwnR (w : World) (base : Nat) (v : Value) (l : List Int) : Prop := w.ownsRow base 21 1 v l.length (runeCells l)
theorem OwnR.nil (w : World) (base : Nat) : OwnR w base (.slice none 0 0) [] := World.ownsRow_nil _ _ _ _
theorem OwnR.of {w w' : World} {base n : Nat} {v v' : Value} {xs : List Value} {l : List Int}
    (h : Appended base 21 1 v w n xs v' w') (hn : l.length = n) (hx : runeCells l = xs) : OwnR w' base v' l := by
  subst hn hx
  exact h.own
theorem runeCells_append (a b : List Int) : runeCells (a ++ b) = runeCells a ++ runeCells b := by simp [runeCells]
theorem runeCells_one (a : List Int) : ∀ u ∈ runeCells a, u.oneCell' = true := by
  intro u hu
  simp only [runeCells, List.mem_map] at hu
  obtain ⟨k, _, rfl⟩ := hu
  rfl
theorem Tryz.info21 : (Tryz.prog.info? 21).map (fun i => (i.zero, i.size, i.bytes)) = some (some (.int .i32 0), 1, 4) := by kernel_rfl

theorem OwnR.rd {w : World} {base : Nat} {A : Option Addr} {n c : Nat} {l : List Int} (h : OwnR w base (.slice A n c) l) (hn : l.length = n) : RdR w w.heap.size A n l := by
  subst hn
  exact Rd.of_own h
/-- Numbers, as cells; a list of numbers that the call owns. -/
def intCells (l : List Int) : List Value := l.map (Value.int .i64)
def OwnI (w : World) (base : Nat) (v : Value) (l : List Int) : Prop := w.ownsRow base 3 1 v l.length (intCells l)
theorem OwnI.nil (w : World) (base : Nat) : OwnI w base (.slice none 0 0) [] := World.ownsRow_nil _ _ _ _
theorem OwnI.of {w w' : World} {base n : Nat} {v v' : Value} {xs : List Value} {l : List Int}
    (h : Appended base 3 1 v w n xs v' w') (hn : l.length = n) (hx : intCells l = xs) : OwnI w' base v' l := by
  subst hn hx
  exact h.own
theorem Tryz.info3 : (Tryz.prog.info? 3).map (fun i => (i.zero, i.size, i.bytes)) = some (some (.int .i64 0), 1, 8) := by kernel_rfl

/-- Slice A of n numbers reads as the list l. -/
def RdI (w : World) (B : Nat) (A : Option Addr) (n : Nat) (l : List Int) : Prop := Rd w B 1 A n (intCells l)
theorem RdI.len {w : World} {B n : Nat} {A : Option Addr} {l : List Int} (h : RdI w B A n l) : l.length = n := by
  have := h.1; simp [intCells] at this; omega
theorem RdI.at {w : World} {B n : Nat} {A : Option Addr} {l : List Int} (h : RdI w B A n l) {k : Nat} {x : Int} (hk : l[k]? = some x) :
    ∃ b off : Nat, A = some ⟨b, off, none⟩ ∧ b < B ∧ w.cell? ⟨b, off + k, none⟩ = some (.int .i64 x) := by
  have hl : k < l.length := (List.getElem?_eq_some_iff.1 hk).1
  have := h.len
  obtain ⟨b, off, e, hb, hc⟩ := h.2 (by omega)
  exact ⟨b, off, e, hb, hc k _ (by simp [intCells, hk])⟩
theorem OwnI.rd {w : World} {base : Nat} {A : Option Addr} {n c : Nat} {l : List Int} (h : OwnI w base (.slice A n c) l) (hn : l.length = n) : RdI w w.heap.size A n l := by
  subst hn
  exact Rd.of_own h

end Go.Proofs.YthnhbcohfoodlaaGreatDoor
