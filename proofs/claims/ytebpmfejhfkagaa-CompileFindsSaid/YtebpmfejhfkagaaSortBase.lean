/- The library's sort at runes: the row at hand in memory; cmp.Less; what two stores make of the row. -/
import Derived.Test.YtebpmfejhfkagaaProg
import Derived.Test.YtebpmfejhfkagaaMem
import Derived.Sort.AssemblyPlain
import Derived.WalkKit
import Derived.BigGuard
import Derived.BigCall
import Derived.CellFam
import Derived.Deep.Draws
import Derived.Deep.QuietTactic
import Derived.BigQuiet
import Derived.Lib.Hide
namespace Go.Proofs.Ytebpmfejhfkagaa
open Go.RowKit Go.Sort

/-- The runes d stand in block blk from off on. -/
def RowAt (w : World) (blk off : Nat) (d : Array Int) : Prop := ∃ (c : Array Value) (e : TypeId), Blk w blk e c ∧ ∀ j, j < d.size → c[off + j]? = some (.int .i32 d[j]!)
/-- What lies outside block blk is as it was in w; there may be more. -/
def Rest (w : World) (blk : Nat) (wr : World) : Prop := w.heap.size ≤ wr.heap.size ∧ wr.os = w.os ∧ wr.tape = w.tape ∧ wr.output = w.output ∧ ∀ k, k < w.heap.size → k ≠ blk → wr.heap[k]? = w.heap[k]?
/-- The world w but for draws and new blocks, the row at blk, off holding d. -/
def RowIs (w : World) (blk off : Nat) (d : Array Int) (wr : World) : Prop :=
  ∃ (c c' : Array Value) (e : TypeId), Blk w blk e c ∧ Blk wr blk e c' ∧ c'.size = c.size ∧ (∀ j, j < d.size → c'[off + j]? = some (.int .i32 d[j]!)) ∧ (∀ k, k < off ∨ off + d.size ≤ k → c'[k]? = c[k]?) ∧ Rest w blk wr
section
variable {w wr w2 : World} {blk off : Nat} {d d' : Array Int}
theorem Rest.refl (w : World) (blk : Nat) : Rest w blk w := ⟨Nat.le_refl _, rfl, rfl, rfl, fun _ _ _ => rfl⟩
theorem Rest.trans (h : Rest w blk wr) (h2 : Rest wr blk w2) : Rest w blk w2 :=
  ⟨Nat.le_trans h.1 h2.1, h2.2.1.trans h.2.1, h2.2.2.1.trans h.2.2.1, h2.2.2.2.1.trans h.2.2.2.1, fun k hk hne => (h2.2.2.2.2 k (Nat.lt_of_lt_of_le hk h.1) hne).trans (h.2.2.2.2 k hk hne)⟩
theorem Rest.below (h : Rest w blk wr) (hb : Below wr.heap.size wr w2) : Rest w blk w2 :=
  h.trans ⟨hb.size, hb.os, hb.tape, hb.output, fun k hk _ => hb.block k hk⟩
theorem RowIs.start (h : RowAt w blk off d) : RowIs w blk off d w := by
  obtain ⟨c, e, h1, h2⟩ := h
  exact ⟨c, c, e, h1, h1, rfl, h2, fun _ _ => rfl, Rest.refl _ _⟩
theorem RowIs.row (h : RowIs w blk off d wr) : RowAt wr blk off d := by
  obtain ⟨c, c', e, _, h1, _, h2, _⟩ := h
  exact ⟨c', e, h1, h2⟩
theorem RowIs.rest (h : RowIs w blk off d wr) : Rest w blk wr := by
  obtain ⟨_, _, _, _, _, _, _, _, h⟩ := h
  exact h
theorem RowIs.below (h : RowIs w blk off d wr) (hb : Below wr.heap.size wr w2) : RowIs w blk off d w2 := by
  obtain ⟨c, c', e, h1, h2, h3, h4, h5, h6⟩ := h
  exact ⟨c, c', e, h1, Blk.below h2 hb h2.lt, h3, h4, h5, h6.below hb⟩
theorem RowIs.drewN (h : RowIs w blk off d wr) (q : Nat) : RowIs w blk off d (wr.drewN q) := by
  obtain ⟨c, c', e, h1, h2, h3, h4, h5, h6⟩ := h
  exact ⟨c, c', e, h1, h2, h3, h4, h5, h6⟩
theorem RowIs.cells (h : RowIs w blk off d wr) {n : Nat} (hs : d.size = n) :
    ∃ G : Nat → Int, (∀ t, G t = d[t]!) ∧ (∀ t, t < n → wr.cell? ⟨blk, off + t, none⟩ = some (.int .i32 (G t))) ∧ (∀ t, t < n → wr.frozen? ⟨blk, off + t, none⟩ = false) := by
  obtain ⟨c, c', e, h1, h2, h3, h4, h5, h6⟩ := h
  exact ⟨fun t => d[t]!, fun _ => rfl, fun t ht => (h2.cell _).trans (h4 t (by omega)), fun t _ => h2.frozen _⟩
theorem RowIs.trans (h : RowIs w blk off d wr) (h' : RowIs wr blk off d' w2) (hs : d'.size = d.size) : RowIs w blk off d' w2 := by
  obtain ⟨c, c', e, h1, h2, h3, h4, h5, h6⟩ := h
  obtain ⟨k, k', e', g1, g2, g3, g4, g5, g6⟩ := h'
  have he : some (Obj.cells c' e (0, 0)) = some (Obj.cells k e' (0, 0)) := h2.symm.trans g1
  injection he with he
  injection he with he1 he2
  subst he1 he2
  exact ⟨c, k', e, h1, g2, g3.trans h3, g4, fun i hi => (g5 i hi).trans (h5 i (by omega)), h6.trans g6⟩
theorem RowIs.swap {G : Nat → Int} (h : RowIs w blk off d wr) (hG : ∀ t, G t = d[t]!) {j k : Nat} (hj : j < d.size) (hk : k < d.size) :
    RowIs w blk off (swp d j k) ((wr.setCell ⟨blk, off + j, none⟩ (.int .i32 (G k))).setCell ⟨blk, off + k, none⟩ (.int .i32 (G j))) := by
  obtain ⟨c, c', e, h1, h2, h3, h4, h5, h6⟩ := h
  have p1 := h2.put (off + j) (.int .i32 (G k))
  have p2 := p1.put (off + k) (.int .i32 (G j))
  have hsz : ∀ i, i < d.size → off + i < c'.size := fun i hi => (Array.getElem?_eq_some_iff.1 (h4 i hi)).1
  refine ⟨c, _, e, h1, p2, by simpa using h3, fun i hi => ?_, fun i hi => ?_, ?_⟩
  · have hi' : i < d.size := by simpa [swp] using hi
    have hjs := hsz j hj
    have hks := hsz k hk
    rw [swp_get d hj hk]
    simp only [Array.getElem?_setIfInBounds, Array.size_setIfInBounds]
    by_cases hik : i = k
    · subst hik
      rw [if_pos rfl, if_pos hks, hG]
      by_cases hij : i = j
      · subst hij; simp
      · simp
    · by_cases hij : i = j
      · subst hij
        rw [if_neg (by omega), if_pos rfl, if_pos hjs, hG]
        simp [hik]
      · rw [if_neg (by omega), if_neg (by omega), h4 i hi']
        simp [hik, hij]
  · have hs' : (swp d j k).size = d.size := by simp [swp]
    rw [hs'] at hi
    simp only [Array.getElem?_setIfInBounds, Array.size_setIfInBounds]
    rw [if_neg (by omega), if_neg (by omega)]
    exact h5 i hi
  · refine ⟨by simpa using h6.1, h6.2.1, h6.2.2.1, h6.2.2.2.1, fun i hi hne => ?_⟩
    rw [Below.heap_setCell _ _ _ _ hne, Below.heap_setCell _ _ _ _ hne]
    exact h6.2.2.2.2 i hi hne
end
theorem cmp_nan (x : Int) (w : World) : Calls Try.prog 54 #[.int .i32 x] w fun e w' => e = .returned (.bool false) ∧ w' = w := by
  go_enter Try.func54, Try.ntmps54
  go_wp2
  go_ret
  simp
theorem cmp_less (x y : Int) (w : World) : Calls Try.prog 40 #[.int .i32 x, .int .i32 y] w fun e w' => e = .returned (.bool (ltInt x y)) ∧ w' = w := by
  go_enter Try.func40, Try.ntmps40
  go_wp2_with fail
  refine (cmp_nan x _).mono ?_
  rintro e w1 ⟨rfl, rfl⟩
  go_wp2_with fail
  go_ret
  exact ⟨rfl, rfl⟩

end Go.Proofs.Ytebpmfejhfkagaa
