/- Kinds -/
import Derived.Test.YthnhbcohfoodlaaGreatDoorZk9
import Derived.Test.YthnhbcohfoodlaaGreatDoorRows
namespace Go.Proofs.YthnhbcohfoodlaaGreatDoor
open Go.RowKit
def OwnR (w : World) (base : Nat) (v : Value) (l : List Int) : Prop := w.ownsRow base 21 1 v l.length (runeCells l)
theorem OwnR.nil (w : World) (base : Nat) : OwnR w base (.slice none 0 0) [] := World.ownsRow_nil _ _ _ _
theorem OwnR.of {w w' : World} {base n : Nat} {v v' : Value} {xs : List Value} {l : List Int}
    (h : Appended base 21 1 v w n xs v' w') (hn : l.length = n) (hx : runeCells l = xs) : OwnR w' base v' l := by
  subst hn hx
  exact h.own
theorem OwnR.rd {w : World} {base : Nat} {A : Option Addr} {n c : Nat} {l : List Int} (h : OwnR w base (.slice A n c) l) (hn : l.length = n) : RdR w w.heap.size A n l := by
  subst hn
  exact Rd.of_own h
end Go.Proofs.YthnhbcohfoodlaaGreatDoor
