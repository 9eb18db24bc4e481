/- A side as text: the walk of rulesyn.written. -/
import Derived.Test.YtdfljicijfceeaaDoorPut
namespace Go.Proofs.YtdfljicijfceeaaDoor
open Go.RowKit Go.Shelf

def putW (W : List (List UInt8)) (x : List UInt8) : List (List UInt8) := if x = [] then W else W ++ [x]
theorem putW_len (W : List (List UInt8)) (x : List UInt8) : (putW W x).length ≤ W.length + 1 := by
  unfold putW
  split
  · omega
  · simp
theorem putW_text (W : List (List UInt8)) (x : List UInt8) (m : Nat) (h : ∀ y ∈ W, y.length ≤ m) (hx : x.length ≤ m) : ∀ y ∈ putW W x, y.length ≤ m := by
  unfold putW
  split
  · exact h
  · intro y hy
    rcases List.mem_append.1 hy with hy | hy
    · exact h y hy
    · simp at hy; subst hy; exact hx

/-- How far a side is written. -/
def WrittenAt (w : World) (base g g0 : Nat) (cs : Array Value) (W : List (List UInt8)) (w' : World) : Prop :=
  Blk w' g0 37 cs ∧ (∃ v, Blk w' g 47 #[v] ∧ OwnT w' base v W) ∧ Below base w w'

theorem written_put {w w' : World} {base g g0 : Nat} {cs : Array Value} {W : List (List UInt8)} (x : List UInt8) (h : WrittenAt w base g g0 cs W w') (hbg : base ≤ g) (hz : base ≤ w.heap.size) (hne : g0 ≠ g) (hW : W.length ≤ 1000) :
    Calls Tryd.prog 22 #[.string ⟨x.toArray⟩, .pointer (some ⟨g, 0, none⟩)] w' fun e w2 => e = .returned (.tuple #[]) ∧ WrittenAt w base g g0 cs (putW W x) w2 := by
  obtain ⟨h1, ⟨v, h2, h3⟩, h4⟩ := h
  refine (put_text base g x W v w' h2 h3 hbg (Nat.le_trans hz h4.size) hW).mono ?_
  rintro e w2 ⟨rfl, h5, h6, h7⟩
  exact ⟨rfl, h7 g0 _ cs hne (by decide) h1, h5, h4.trans h6⟩
theorem written_below {w w' w2 : World} {base g g0 : Nat} {cs : Array Value} {W : List (List UInt8)} (h : WrittenAt w base g g0 cs W w') (hb : Below w'.heap.size w' w2) (hz : base ≤ w.heap.size) : WrittenAt w base g g0 cs W w2 := by
  obtain ⟨h1, ⟨v, h2, h3⟩, h4⟩ := h
  exact ⟨Blk.below h1 hb h1.lt, ⟨v, Blk.below h2 hb h2.lt, own_below h3 hb⟩, h4.trans (hb.mono (Nat.le_trans hz h4.size))⟩

end Go.Proofs.YtdfljicijfceeaaDoor
