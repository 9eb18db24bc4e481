/- An argument that is a list of keys. -/
import Derived.Test.YtfmebbnccjaadaaOpen
import Derived.Test.YtfmebbnccjaadaaRows
import Derived.Test.YtfmebbnccjaadaaTypedAll
namespace Go.Proofs.Ytfmebbnccjaadaa
open Go.RowKit Go.ChangeShapes Go.WideShapes Go.ChangeAt

section
variable {H : Type} {enc : TypeId × Value → H} {w : World}
set_option maxRecDepth 100000 in
theorem key_read {m : Nat} {cs : List Value} {y : DataW H × List MemPlace} (h : DataW.trod enc Try.prog w 0 (fun _ => true) true m 116 cs = some y) : ∃ a : Int × Int, cs = [.int .i64 a.1, .int .i32 a.2] := by
  obtain ⟨xs, n, _, _, hlen, hxl, hf⟩ := DataW.trod_struct Try.underlying116 h
  have hC : Try.prog.cellsOf 116 = 2 := by kernel_rfl
  have hc3 : Try.prog.cellsOf 3 = 1 := by kernel_rfl
  have hc21 : Try.prog.cellsOf 21 = 1 := by kernel_rfl
  rw [hC] at hlen
  match cs, hlen with
  | [c0, c1], _ =>
    have h0 : DataW.trod enc Try.prog w 0 (fun _ => true) true n 3 [c0] = xs[0]? := by
      have h := hf 0 _ rfl
      change DataW.trod enc Try.prog w 0 (fun _ => true) true n 3 (List.take (Try.prog.cellsOf 3) [c0, c1]) = xs[0]? at h
      rw [hc3] at h
      exact h
    have h1 : DataW.trod enc Try.prog w 0 (fun _ => true) true n 21 [c1] = xs[1]? := by
      have h := hf 1 _ rfl
      change DataW.trod enc Try.prog w 0 (fun _ => true) true n 21 (List.take (Try.prog.cellsOf 21) [c1]) = xs[1]? at h
      rw [hc21] at h
      exact h
    rw [List.getElem?_eq_getElem (by rw [hxl]; decide)] at h0 h1
    obtain ⟨a, e0, _, _⟩ := DataW.trod_int Try.underlying3 h0
    obtain ⟨b, e1, _, _⟩ := DataW.trod_int Try.underlying21 h1
    simp only [List.cons.injEq, and_true] at e0 e1
    subst e0 e1
    exact ⟨(a, b), rfl⟩

theorem open_keys {fuel n c : Nat} {A : Option Addr} {x : DataW H × List MemPlace} (h : DataW.trod enc Try.prog w 0 (fun _ => true) true fuel 57 [.slice A n c] = some x) :
    n ≤ c ∧ c ≤ maxLen ∧ (∃ l, RdK w w.heap.size A n l) ∧ ((x.1 = .nil ∧ c = 0) ∨ ∃ elems spare, x.1 = .slice elems spare ∧ elems.length + spare.length = c) := by
  obtain ⟨h1, h2, l, css, hl, hc, hR, _, hrd, hx⟩ := open_list Try.underlying57 (sz := 2) (by kernel_rfl) (by decide) h (fun (a : Int × Int) cs => cs = [.int .i64 a.1, .int .i32 a.2]) (fun m cs y hy => key_read hy)
  rw [flatten_map (fun a : Int × Int => [.int .i64 a.1, .int .i32 a.2]) l css (by omega) hR] at hrd
  exact ⟨h1, h2, ⟨l, hrd⟩, hx⟩

end
end Go.Proofs.Ytfmebbnccjaadaa
