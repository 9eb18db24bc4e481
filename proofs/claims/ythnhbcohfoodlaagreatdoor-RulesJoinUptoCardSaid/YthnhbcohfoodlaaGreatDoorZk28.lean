/- EdgesBoth -/
import Derived.Test.YthnhbcohfoodlaaGreatDoorZk13
import Derived.Test.YthnhbcohfoodlaaGreatDoorZk22
import Derived.Deep.DeepCutAuto
import Derived.Deep.CutBlock
import Derived.Test.YthnhbcohfoodlaaGreatDoorZk3
namespace Go.Proofs.YthnhbcohfoodlaaGreatDoor
open Go.RowKit
def But (w : World) (g : Nat) (w' : World) : Prop := w.heap.size ≤ w'.heap.size ∧ w'.os = w.os ∧ w'.tape = w.tape ∧ w'.output = w.output ∧ ∀ k, k < w.heap.size → k ≠ g → w'.heap[k]? = w.heap[k]?
theorem But.refl (w : World) (g : Nat) : But w g w := ⟨Nat.le_refl _, rfl, rfl, rfl, fun _ _ _ => rfl⟩
theorem But.trans {w w1 w2 : World} {g : Nat} (h : But w g w1) (h2 : But w1 g w2) : But w g w2 :=
  ⟨Nat.le_trans h.1 h2.1, h2.2.1.trans h.2.1, h2.2.2.1.trans h.2.2.1, h2.2.2.2.1.trans h.2.2.2.1, fun k hk hne => (h2.2.2.2.2 k (Nat.lt_of_lt_of_le hk h.1) hne).trans (h.2.2.2.2 k hk hne)⟩
theorem But.below {w w1 : World} (g : Nat) (h : Below w.heap.size w w1) : But w g w1 := ⟨h.size, h.os, h.tape, h.output, fun k hk _ => h.block k hk⟩
theorem But.set (w : World) (g i : Nat) (u : Value) : But w g (w.setCell ⟨g, i, none⟩ u) := ⟨by simp, rfl, rfl, rfl, fun k _ hne => Below.heap_setCell _ _ _ _ hne⟩
theorem But.to {w w1 : World} {g B : Nat} (h : But w g w1) (hB : B ≤ w.heap.size) (hg : B ≤ g) : Below B w w1 := ⟨h.2.1, h.2.2.1, h.2.2.2.1, h.1, fun k hk => h.2.2.2.2 k (by omega) (by omega)⟩
theorem But.drewN (w : World) (C k : Nat) : But w C (w.drewN k) := But.below C (below_drewN (Below.refl _ _) k)
theorem But.keeps {w w1 : World} {g : Nat} {X X' : Nat → Prop} (h : But w g w1) (hX : ∀ b, X b → b ≠ g) (h2 : ∀ b, X b → b < w.heap.size → X' b) : Keeps w X w1 X' :=
  fun b hb hl => ⟨h.2.2.2.2 b hl (hX b hb), h2 b hb hl, Nat.lt_of_lt_of_le hl h.1⟩
end Go.Proofs.YthnhbcohfoodlaaGreatDoor
namespace Go.Proofs.YthnhbcohfoodlaaGreatDoor
open Go.RowKit
end Go.Proofs.YthnhbcohfoodlaaGreatDoor
