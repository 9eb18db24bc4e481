/- An argument that is a list of runes. -/
import Derived.Test.YtfmebbnccjaadaaOpen
import Derived.Test.YtfmebbnccjaadaaKinds
namespace Go.Proofs.Ytfmebbnccjaadaa
open Go.RowKit Go.ChangeShapes Go.WideShapes Go.ChangeAt

section
variable {H : Type} {enc : TypeId × Value → H} {w : World}
theorem open_runes {fuel n c : Nat} {A : Option Addr} {x : DataW H × List MemPlace} (h : DataW.trod enc Try.prog w 0 (fun _ => true) true fuel 23 [.slice A n c] = some x) :
    n ≤ c ∧ c ≤ maxLen ∧ (∃ l, RdR w w.heap.size A n l) ∧ ((x.1 = .nil ∧ c = 0) ∨ ∃ elems spare, x.1 = .slice elems spare ∧ elems.length + spare.length = c) := by
  obtain ⟨h1, h2, l, css, hl, hc, hR, _, hrd, hx⟩ := open_list Try.underlying23 (sz := 1) (by kernel_rfl) (by decide) h (fun (a : Int) cs => cs = [.int .i32 a]) (fun m cs y hy => by
    obtain ⟨a, e, _, _⟩ := DataW.trod_int Try.underlying21 hy
    exact ⟨a, e⟩)
  rw [flatten_map (fun a : Int => [.int .i32 a]) l css (by omega) hR] at hrd
  refine ⟨h1, h2, ⟨l, ?_⟩, hx⟩
  unfold RdR runeCells
  rw [List.map_eq_flatMap]
  exact hrd
end

end Go.Proofs.Ytfmebbnccjaadaa
