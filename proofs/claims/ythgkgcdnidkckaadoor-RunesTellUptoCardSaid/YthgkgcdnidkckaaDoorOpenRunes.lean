/- An argument that is a list of runes. -/
import Derived.Test.YthgkgcdnidkckaaDoorOpen
import Derived.Test.YthgkgcdnidkckaaDoorKinds
namespace Go.Proofs.YthgkgcdnidkckaaDoor
open Go.RowKit Go.ChangeShapes Go.WideShapes Go.ChangeAt

theorem flatten_map {α : Type} (enc : α → List Value) : ∀ (l : List α) (css : List (List Value)), l.length = css.length → (∀ (i : Nat) (a : α) (cs : List Value), l[i]? = some a → css[i]? = some cs → cs = enc a) → css.flatten = l.flatMap enc := by
  intro l
  induction l with
  | nil => intro css h _; have := List.eq_nil_of_length_eq_zero h.symm; subst this; rfl
  | cons a l ih =>
    intro css h hR
    cases css with
    | nil => simp at h
    | cons c css =>
      have h0 := hR 0 a c rfl rfl
      subst h0
      rw [List.flatten_cons, List.flatMap_cons, ih css (by simpa using h) (fun i a cs h1 h2 => hR (i + 1) a cs (by simpa using h1) (by simpa using h2))]

section
variable {H : Type} {enc : TypeId × Value → H} {w : World}
theorem open_runes {fuel n c : Nat} {A : Option Addr} {x : DataW H × List MemPlace} (h : DataW.trod enc Tryd.prog w 0 (fun _ => true) true fuel 25 [.slice A n c] = some x) :
    n ≤ c ∧ c ≤ maxLen ∧ (∃ l, RdR w w.heap.size A n l) ∧ ((x.1 = .nil ∧ c = 0) ∨ ∃ elems spare, x.1 = .slice elems spare ∧ elems.length + spare.length = c) := by
  obtain ⟨h1, h2, l, css, hl, hc, hR, _, hrd, hx⟩ := open_list Tryd.underlying25 (sz := 1) (by kernel_rfl) (by decide) h (fun (a : Int) cs => cs = [.int .i32 a]) (fun m cs y hy => by
    obtain ⟨a, e, _, _⟩ := DataW.trod_int Tryd.underlying21 hy
    exact ⟨a, e⟩)
  rw [flatten_map (fun a : Int => [.int .i32 a]) l css (by omega) hR] at hrd
  refine ⟨h1, h2, ⟨l, ?_⟩, hx⟩
  unfold RdR runeCells
  rw [List.map_eq_flatMap]
  exact hrd
end

end Go.Proofs.YthgkgcdnidkckaaDoor
