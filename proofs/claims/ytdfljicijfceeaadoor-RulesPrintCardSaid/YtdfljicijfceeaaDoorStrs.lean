/- Lists of texts that the call owns. -/
import Derived.Test.YtdfljicijfceeaaDoorAppend
import Derived.Test.YtdfljicijfceeaaDoorRows
import Derived.Lib.FrozenHead
namespace Go.Proofs.YtdfljicijfceeaaDoor
open Go.RowKit

theorem infoStr : (Tryd.prog.info? 9).map (fun i => (i.zero, i.size, i.bytes)) = some (some (.string ⟨#[]⟩), 1, 16) := by kernel_rfl

def strVals (l : List (List UInt8)) : List Value := l.map fun x => .string ⟨x.toArray⟩
/-- v is a list of the texts l that the call owns. -/
def OwnT (w : World) (base : Nat) (v : Value) (l : List (List UInt8)) : Prop := w.ownsRow base 9 1 v l.length (strVals l)
theorem OwnT.nil (w : World) (base : Nat) : OwnT w base (.slice none 0 0) [] := World.ownsRow_nil _ _ _ _
theorem OwnT.of {w w' : World} {base n : Nat} {v v' : Value} {xs : List Value} {l : List (List UInt8)}
    (h : Appended base 9 1 v w n xs v' w') (hn : l.length = n) (hx : strVals l = xs) : OwnT w' base v' l := by
  subst hn hx
  exact h.own
theorem strVals_append (a b : List (List UInt8)) : strVals (a ++ b) = strVals a ++ strVals b := by simp [strVals]
theorem strVals_length (a : List (List UInt8)) : (strVals a).length = a.length := by simp [strVals]
theorem strVals_one (l : List (List UInt8)) : ∀ u ∈ strVals l, u.oneCell' = true := by
  intro u hu
  simp only [strVals, List.mem_map] at hu
  obtain ⟨k, _, rfl⟩ := hu
  rfl
theorem OwnT.rd {w : World} {base : Nat} {A : Option Addr} {n c : Nat} {l : List (List UInt8)} (h : OwnT w base (.slice A n c) l) (hn : l.length = n) : Rd w w.heap.size 1 A n (strVals l) := by
  subst hn
  exact Rd.of_own h

end Go.Proofs.YtdfljicijfceeaaDoor
