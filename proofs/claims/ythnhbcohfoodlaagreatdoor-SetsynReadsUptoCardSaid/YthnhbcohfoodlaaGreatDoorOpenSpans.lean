/- An argument that is a list of spans. -/
import Derived.Test.YthnhbcohfoodlaaGreatDoorOpen
import Derived.Test.YthnhbcohfoodlaaGreatDoorSpan
namespace Go.Proofs.YthnhbcohfoodlaaGreatDoor
open Go.RowKit Go.ChangeShapes Go.WideShapes Go.ChangeAt

section
variable {H : Type} {enc : TypeId × Value → H} {w : World}
theorem trod_span {m : Nat} {cs : List Value} {y : DataW H × List MemPlace} (h : DataW.trod enc Tryz.prog w 0 (fun _ => true) true m 74 cs = some y) : ∃ z : Int × Int, cs = [.int .i32 z.1, .int .i32 z.2] := by
  have c1 : Tryz.prog.cellsOf 21 = 1 := by kernel_rfl
  have c2 : Tryz.prog.cellsOf 74 = 2 := by kernel_rfl
  obtain ⟨y0, y1, n, _, hl, h0, h1⟩ := trod_struct2 Tryz.underlying74 h
  dsimp only at h0 h1
  rw [c1] at h0 h1
  rw [c2] at hl
  obtain ⟨a, e0, _, _⟩ := DataW.trod_int Tryz.underlying21 h0
  obtain ⟨b, e1, _, _⟩ := DataW.trod_int Tryz.underlying21 h1
  match cs, hl with
  | [u, v], _ =>
    simp at e0 e1
    exact ⟨(a, b), by rw [e0, e1]⟩
theorem open_spans {fuel n c : Nat} {A : Option Addr} {x : DataW H × List MemPlace} (h : DataW.trod enc Tryz.prog w 0 (fun _ => true) true fuel 22 [.slice A n c] = some x) :
    n ≤ c ∧ c ≤ maxLen ∧ (∃ l, RdS w w.heap.size A n l) ∧ ((x.1 = .nil ∧ c = 0) ∨ ∃ elems spare, x.1 = .slice elems spare ∧ elems.length + spare.length = c) := by
  obtain ⟨h1, h2, l, css, hl, hc, hR, _, hrd, hx⟩ := open_list Tryz.underlying22 (sz := 2) (by kernel_rfl) (by decide) h (fun (z : Int × Int) cs => cs = [.int .i32 z.1, .int .i32 z.2]) (fun m cs y hy => trod_span hy)
  rw [flatten_map (fun z : Int × Int => [.int .i32 z.1, .int .i32 z.2]) l css (by omega) hR] at hrd
  exact ⟨h1, h2, ⟨l, hrd⟩, hx⟩
end

end Go.Proofs.YthnhbcohfoodlaaGreatDoor
