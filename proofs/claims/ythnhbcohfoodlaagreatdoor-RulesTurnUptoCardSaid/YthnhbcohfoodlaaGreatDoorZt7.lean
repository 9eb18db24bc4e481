/- Strs + Near -/
import Derived.Test.YthnhbcohfoodlaaGreatDoorZt3
import Derived.Test.YthnhbcohfoodlaaGreatDoorRows
import Derived.Lib.FrozenHead
namespace Go.Proofs.YthnhbcohfoodlaaGreatDoor
open Go.RowKit
theorem infoStr : (Tryz.prog.info? 9).map (fun i => (i.zero, i.size, i.bytes)) = some (some (.string ⟨#[]⟩), 1, 16) := by kernel_rfl
def strVals (l : List (List UInt8)) : List Value := l.map fun x => .string ⟨x.toArray⟩
def OwnT (w : World) (base : Nat) (v : Value) (l : List (List UInt8)) : Prop := w.ownsRow base 9 1 v l.length (strVals l)
theorem OwnT.nil (w : World) (base : Nat) : OwnT w base (.slice none 0 0) [] := World.ownsRow_nil _ _ _ _
theorem OwnT.of {w w' : World} {base n : Nat} {v v' : Value} {xs : List Value} {l : List (List UInt8)}
 (h : Appended base 9 1 v w n xs v' w') (hn : l.length = n) (hx : strVals l = xs) : OwnT w' base v' l := by
 subst hn hx
 exact h.own
theorem strVals_append (a b : List (List UInt8)) : strVals (a ++ b) = strVals a ++ strVals b := by simp [strVals]
theorem OwnT.push {w w2 : World} {base : Nat} {v v' : Value} {x : List UInt8} {X : ByteArray} (hX : (⟨x.toArray⟩ : ByteArray) = X) (l : List (List UInt8)) (h : Appended base 9 1 v w (l.length + 1) (strVals l ++ [.string X]) v' w2) : OwnT w2 base v' (l ++ [x]) :=
 OwnT.of h (by simp) (by rw [strVals_append]; subst hX; rfl)
theorem ba_list (x : ByteArray) : (⟨x.data.toList.toArray⟩ : ByteArray) = x := by
 apply ByteArray.ext
 simp
end Go.Proofs.YthnhbcohfoodlaaGreatDoor

namespace Go.Proofs.YthnhbcohfoodlaaGreatDoor
open Go.RowKit
def Fr (B lo : Nat) (b : Nat) : Prop := b < B ∨ lo ≤ b
theorem take_snoc {α : Type} {l : List α} {k : Nat} {p : α} (h : l[k]? = some p) : l.take (k + 1) = l.take k ++ [p] := by
 rw [List.take_add_one, h]; rfl
theorem two_new (w : World) (t1 t2 : TypeId) (c1 c2 : Array Value) : Blk ((w.alloc (.cells c1 t1)).alloc (.cells c2 t2)) w.heap.size t1 c1 ∧ Blk ((w.alloc (.cells c1 t1)).alloc (.cells c2 t2)) (w.heap.size + 1) t2 c2 ∧ Below w.heap.size w ((w.alloc (.cells c1 t1)).alloc (.cells c2 t2)) ∧ ((w.alloc (.cells c1 t1)).alloc (.cells c2 t2)).heap.size = w.heap.size + 2 :=
 ⟨Blk.alloc (Blk.new _ _ _) _, by simpa using Blk.new (w.alloc (.cells c1 t1)) t2 c2, ((Below.refl _ _).alloc (Nat.le_refl _) _).alloc (by simp) _, by simp⟩
theorem blk_set_ne {wx : World} {g g2 i : Nat} {u : Value} {t : TypeId} {cs : Array Value} (h : Blk wx g2 t cs) (hne : g2 ≠ g) : Blk (wx.setCell ⟨g, i, none⟩ u) g2 t cs := by
 unfold Blk at h ⊢
 rw [Below.heap_setCell _ _ _ _ hne]
 exact h
end Go.Proofs.YthnhbcohfoodlaaGreatDoor
