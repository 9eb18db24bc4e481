/- An argument that is a list of rules. -/
import Derived.Test.YtfmebbnccjaadaaRuleFoot
namespace Go.Proofs.Ytfmebbnccjaadaa
open Go.RowKit Go.ChangeShapes Go.WideShapes Go.ChangeAt

section
variable {H : Type} {enc : TypeId × Value → H} {w : World}

theorem trod_slice_one' {e t : TypeId} {m : Nat} {v : Value} {y : DataW H × List MemPlace} (ht : Try.prog.underlying t = some (.slice e)) (h : DataW.trod enc Try.prog w 0 (fun _ => true) true m t [v] = some y) : ∃ A n c, v = .slice A n c := by
  rcases Deep.open_slice ht h with ⟨hcs, _⟩ | ⟨a, len, cap, m, f, D, Pl, hcs, _⟩
  · simp only [List.cons.injEq, and_true] at hcs
    exact ⟨none, 0, 0, hcs⟩
  · simp only [List.cons.injEq, and_true] at hcs
    exact ⟨_, _, _, hcs⟩
theorem any_of_rd {sz n : Nat} {A : Option Addr} {xs : List Value} (h : Rd w w.heap.size sz A n xs) : RdX w Any0 sz A n xs := RdX.of_rd h (Nat.le_refl _) (fun _ _ => trivial)
theorem trod_set {m : Nat} {cs : List Value} {y : DataW H × List MemPlace} (h : DataW.trod enc Try.prog w 0 (fun _ => true) true m 48 cs = some y) : ∃ s : Spans, SetC w Any0 s cs := by
  have k1 : Try.prog.cellsOf 48 = 1 := by kernel_rfl
  have hl : ∃ v, cs = [v] := by
    rcases Deep.open_slice Try.underlying48 h with ⟨hcs, _⟩ | ⟨a, len, cap, m, f, D, Pl, hcs, _⟩
    · exact ⟨_, hcs⟩
    · exact ⟨_, hcs⟩
  obtain ⟨v, rfl⟩ := hl
  obtain ⟨A, n, c, rfl⟩ := trod_slice_one' Try.underlying48 h
  obtain ⟨q1, q2, ⟨l, hl⟩, _⟩ := open_spans h
  exact ⟨l, _, rfl, A, n, c, rfl, any_of_rd hl, Nat.le_trans q1 q2⟩
theorem trod_sets {m : Nat} {v : Value} {y : DataW H × List MemPlace} (h : DataW.trod enc Try.prog w 0 (fun _ => true) true m 77 [v] = some y) : ∃ l : List Spans, SetsV w Any0 l v := by
  obtain ⟨A, n, c, rfl⟩ := trod_slice_one' Try.underlying77 h
  obtain ⟨h1, h2, l, css, hl, hc, hR, hlen, hrd, _⟩ := open_list Try.underlying77 (sz := 1) (by kernel_rfl) (by decide) h (fun (s : Spans) cs => SetC w Any0 s cs) (fun m cs y hy => trod_set hy)
  exact ⟨l, A, n, c, rfl, ⟨css, hl, hc, hR, hlen, any_of_rd hrd⟩, Nat.le_trans h1 h2⟩
theorem trod_rune {m : Nat} {cs : List Value} {y : DataW H × List MemPlace} (h : DataW.trod enc Try.prog w 0 (fun _ => true) true m 21 cs = some y) : ∃ z : Int, cs = [.int .i32 z] := by
  obtain ⟨a, e0, _, _⟩ := DataW.trod_int Try.underlying21 h
  exact ⟨a, e0⟩
theorem trod_target {m : Nat} {v : Value} {y : DataW H × List MemPlace} (h : DataW.trod enc Try.prog w 0 (fun _ => true) true m 23 [v] = some y) : ∃ (l : List Int) (A : Option Addr) (n c : Nat), v = .slice A n c ∧ RdX w Any0 1 A n (runeCells l) ∧ n ≤ maxLen := by
  obtain ⟨A, n, c, rfl⟩ := trod_slice_one' Try.underlying23 h
  obtain ⟨h1, h2, l, css, hl, hc, hR, hlen, hrd, _⟩ := open_list Try.underlying23 (sz := 1) (by kernel_rfl) (by decide) h (fun (z : Int) cs => cs = [.int .i32 z]) (fun m cs y hy => trod_rune hy)
  rw [flatten_map (fun z : Int => [.int .i32 z]) l css (by omega) hR] at hrd
  refine ⟨l, A, n, c, rfl, any_of_rd ?_, Nat.le_trans h1 h2⟩
  rwa [show l.flatMap (fun z : Int => [Value.int .i32 z]) = runeCells l by
    clear hl hR hrd
    induction l with
    | nil => rfl
    | cons a l ih => rw [List.flatMap_cons, ih]; rfl] at hrd
set_option maxRecDepth 100000 in
theorem trod_rule {m : Nat} {cs : List Value} {y : DataW H × List MemPlace} (h : DataW.trod enc Try.prog w 0 (fun _ => true) true m 79 cs = some y) : ∃ r : RuleD, RuleC w Any0 r cs := by
  have c0 : Try.prog.cellsOf 79 = 7 := by kernel_rfl
  have k0 : Try.prog.cellsOf 4 = 1 := by kernel_rfl
  have k1 : Try.prog.cellsOf 77 = 1 := by kernel_rfl
  have k2 : Try.prog.cellsOf 23 = 1 := by kernel_rfl
  have k3 : Try.prog.cellsOf 3 = 1 := by kernel_rfl
  obtain ⟨xs, n, _, _, hl, hlen, hf⟩ := DataW.trod_struct Try.underlying79 h
  rw [c0] at hl
  have hlen2 : xs.length = 7 := hlen
  clear hlen
  match cs, hl with
  | [u0, u1, u2, u3, u4, u5, u6], _ =>
    obtain ⟨y0, hy0⟩ : ∃ z, xs[0]? = some z := ⟨_, List.getElem?_eq_getElem (by omega)⟩
    have f0 : DataW.trod enc Try.prog w 0 (fun _ => true) true n 4 (List.take (Try.prog.cellsOf 4) (List.drop 0 [u0, u1, u2, u3, u4, u5, u6])) = xs[0]? := hf 0 _ rfl
    rw [k0, hy0] at f0
    have g0 : DataW.trod enc Try.prog w 0 (fun _ => true) true n 4 [u0] = some y0 := f0
    obtain ⟨y1, hy1⟩ : ∃ z, xs[1]? = some z := ⟨_, List.getElem?_eq_getElem (by omega)⟩
    have f1 : DataW.trod enc Try.prog w 0 (fun _ => true) true n 4 (List.take (Try.prog.cellsOf 4) (List.drop 1 [u0, u1, u2, u3, u4, u5, u6])) = xs[1]? := hf 1 _ rfl
    rw [k0, hy1] at f1
    have g1 : DataW.trod enc Try.prog w 0 (fun _ => true) true n 4 [u1] = some y1 := f1
    obtain ⟨y2, hy2⟩ : ∃ z, xs[2]? = some z := ⟨_, List.getElem?_eq_getElem (by omega)⟩
    have f2 : DataW.trod enc Try.prog w 0 (fun _ => true) true n 77 (List.take (Try.prog.cellsOf 77) (List.drop 2 [u0, u1, u2, u3, u4, u5, u6])) = xs[2]? := hf 2 _ rfl
    rw [k1, hy2] at f2
    have g2 : DataW.trod enc Try.prog w 0 (fun _ => true) true n 77 [u2] = some y2 := f2
    obtain ⟨y3, hy3⟩ : ∃ z, xs[3]? = some z := ⟨_, List.getElem?_eq_getElem (by omega)⟩
    have f3 : DataW.trod enc Try.prog w 0 (fun _ => true) true n 77 (List.take (Try.prog.cellsOf 77) (List.drop 3 [u0, u1, u2, u3, u4, u5, u6])) = xs[3]? := hf 3 _ rfl
    rw [k1, hy3] at f3
    have g3 : DataW.trod enc Try.prog w 0 (fun _ => true) true n 77 [u3] = some y3 := f3
    obtain ⟨y4, hy4⟩ : ∃ z, xs[4]? = some z := ⟨_, List.getElem?_eq_getElem (by omega)⟩
    have f4 : DataW.trod enc Try.prog w 0 (fun _ => true) true n 77 (List.take (Try.prog.cellsOf 77) (List.drop 4 [u0, u1, u2, u3, u4, u5, u6])) = xs[4]? := hf 4 _ rfl
    rw [k1, hy4] at f4
    have g4 : DataW.trod enc Try.prog w 0 (fun _ => true) true n 77 [u4] = some y4 := f4
    obtain ⟨y5, hy5⟩ : ∃ z, xs[5]? = some z := ⟨_, List.getElem?_eq_getElem (by omega)⟩
    have f5 : DataW.trod enc Try.prog w 0 (fun _ => true) true n 23 (List.take (Try.prog.cellsOf 23) (List.drop 5 [u0, u1, u2, u3, u4, u5, u6])) = xs[5]? := hf 5 _ rfl
    rw [k2, hy5] at f5
    have g5 : DataW.trod enc Try.prog w 0 (fun _ => true) true n 23 [u5] = some y5 := f5
    obtain ⟨y6, hy6⟩ : ∃ z, xs[6]? = some z := ⟨_, List.getElem?_eq_getElem (by omega)⟩
    have f6 : DataW.trod enc Try.prog w 0 (fun _ => true) true n 3 (List.take (Try.prog.cellsOf 3) (List.drop 6 [u0, u1, u2, u3, u4, u5, u6])) = xs[6]? := hf 6 _ rfl
    rw [k3, hy6] at f6
    have g6 : DataW.trod enc Try.prog w 0 (fun _ => true) true n 3 [u6] = some y6 := f6
    obtain ⟨b0, e0, _⟩ := DataW.trod_bool Try.underlying4 g0
    obtain ⟨b1, e1, _⟩ := DataW.trod_bool Try.underlying4 g1
    obtain ⟨l2, s2⟩ := trod_sets g2
    obtain ⟨l3, s3⟩ := trod_sets g3
    obtain ⟨l4, s4⟩ := trod_sets g4
    obtain ⟨l5, A5, n5, c5, rfl, s5, hn5⟩ := trod_target g5
    obtain ⟨v6, e6, _, w6⟩ := DataW.trod_int Try.underlying3 g6
    simp only [List.cons.injEq, and_true] at e0 e1 e6
    subst e0 e1 e6
    exact ⟨⟨b0, b1, l2, l3, l4, l5, v6⟩, _, _, _, A5, n5, c5, rfl, s2, s3, s4, s5, hn5⟩

theorem open_rules {fuel n c : Nat} {A : Option Addr} {x : DataW H × List MemPlace} (h : DataW.trod enc Try.prog w 0 (fun _ => true) true fuel 22 [.slice A n c] = some x) :
    n ≤ c ∧ c ≤ maxLen ∧ (∃ l, ListX (RuleC w Any0) w Any0 7 A n l) ∧ ((x.1 = .nil ∧ c = 0) ∨ ∃ elems spare, x.1 = .slice elems spare ∧ elems.length + spare.length = c) := by
  obtain ⟨h1, h2, l, css, hl, hc, hR, hlen, hrd, hx⟩ := open_list Try.underlying22 (sz := 7) (by kernel_rfl) (by decide) h (fun (r : RuleD) cs => RuleC w Any0 r cs) (fun m cs y hy => trod_rule hy)
  exact ⟨h1, h2, ⟨l, css, hl, hc, hR, hlen, any_of_rd hrd⟩, hx⟩
end

end Go.Proofs.Ytfmebbnccjaadaa
