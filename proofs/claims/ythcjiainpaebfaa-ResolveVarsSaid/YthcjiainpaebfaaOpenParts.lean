/- An argument that is a file of rules. -/
import Derived.Test.YthcjiainpaebfaaParts
import Derived.Deep.Strs
namespace Go.Proofs.Ythcjiainpaebfaa
open Go.RowKit Go.ChangeShapes Go.WideShapes Go.ChangeAt

section
variable {H : Type} {enc : TypeId × Value → H} {w : World}

theorem wf_i64 {n : Int} (h : (Lit.int .i64 n).wf = true) : i64R n := by
  simp [Lit.wf, IntKind.min, IntKind.max, IntKind.bits, IntKind.signed] at h
  exact h

theorem trod_slice_one {e t : TypeId} {m : Nat} {v : Value} {y : DataW H × List MemPlace} (ht : Try.prog.underlying t = some (.slice e)) (h : DataW.trod enc Try.prog w 0 (fun _ => true) true m t [v] = some y) : ∃ A n c, v = .slice A n c := by
  rcases Deep.open_slice ht h with ⟨hcs, _⟩ | ⟨a, len, cap, m, f, D, Pl, hcs, _⟩
  · simp only [List.cons.injEq, and_true] at hcs
    exact ⟨none, 0, 0, hcs⟩
  · simp only [List.cons.injEq, and_true] at hcs
    exact ⟨_, _, _, hcs⟩

set_option maxRecDepth 100000 in
theorem trod_item {m : Nat} {cs : List Value} {y : DataW H × List MemPlace} (h : DataW.trod enc Try.prog w 0 (fun _ => true) true m 43 cs = some y) : ∃ a : ItemD, ItemC w w.heap.size a cs := by
  have c0 : Try.prog.cellsOf 43 = 4 := by kernel_rfl
  have k0 : Try.prog.cellsOf 3 = 1 := by kernel_rfl
  have k1 : Try.prog.cellsOf 21 = 1 := by kernel_rfl
  have k2 : Try.prog.cellsOf 23 = 1 := by kernel_rfl
  have k3 : Try.prog.cellsOf 9 = 1 := by kernel_rfl
  obtain ⟨xs, n, _, _, hl, hlen, hf⟩ := DataW.trod_struct Try.underlying43 h
  rw [c0] at hl
  have hlen2 : xs.length = 4 := hlen
  clear hlen
  match cs, hl with
  | [u0, u1, u2, u3], _ =>
    obtain ⟨y0, hy0⟩ : ∃ z, xs[0]? = some z := ⟨_, List.getElem?_eq_getElem (by omega)⟩
    have f0 : DataW.trod enc Try.prog w 0 (fun _ => true) true n 3 (List.take (Try.prog.cellsOf 3) (List.drop 0 [u0, u1, u2, u3])) = xs[0]? := hf 0 _ rfl
    rw [k0, hy0] at f0
    have g0 : DataW.trod enc Try.prog w 0 (fun _ => true) true n 3 [u0] = some y0 := f0
    obtain ⟨y1, hy1⟩ : ∃ z, xs[1]? = some z := ⟨_, List.getElem?_eq_getElem (by omega)⟩
    have f1 : DataW.trod enc Try.prog w 0 (fun _ => true) true n 21 (List.take (Try.prog.cellsOf 21) (List.drop 1 [u0, u1, u2, u3])) = xs[1]? := hf 1 _ rfl
    rw [k1, hy1] at f1
    have g1 : DataW.trod enc Try.prog w 0 (fun _ => true) true n 21 [u1] = some y1 := f1
    obtain ⟨y2, hy2⟩ : ∃ z, xs[2]? = some z := ⟨_, List.getElem?_eq_getElem (by omega)⟩
    have f2 : DataW.trod enc Try.prog w 0 (fun _ => true) true n 23 (List.take (Try.prog.cellsOf 23) (List.drop 2 [u0, u1, u2, u3])) = xs[2]? := hf 2 _ rfl
    rw [k2, hy2] at f2
    have g2 : DataW.trod enc Try.prog w 0 (fun _ => true) true n 23 [u2] = some y2 := f2
    obtain ⟨y3, hy3⟩ : ∃ z, xs[3]? = some z := ⟨_, List.getElem?_eq_getElem (by omega)⟩
    have f3 : DataW.trod enc Try.prog w 0 (fun _ => true) true n 9 (List.take (Try.prog.cellsOf 9) (List.drop 3 [u0, u1, u2, u3])) = xs[3]? := hf 3 _ rfl
    rw [k3, hy3] at f3
    have g3 : DataW.trod enc Try.prog w 0 (fun _ => true) true n 9 [u3] = some y3 := f3
    obtain ⟨vk, ek, _, wk⟩ := DataW.trod_int Try.underlying3 g0
    obtain ⟨vr, er, _, _⟩ := DataW.trod_int Try.underlying21 g1
    obtain ⟨A, q, c, rfl⟩ := trod_slice_one Try.underlying23 g2
    obtain ⟨q1, q2, ⟨l, hl⟩, _⟩ := open_spans g2
    obtain ⟨vs, es, _, ws⟩ := DataW.trod_string Try.underlying9 g3
    simp only [List.cons.injEq, and_true] at ek er es
    subst ek er es
    exact ⟨⟨vk, vr, l, vs⟩, A, q, c, rfl, hl, Nat.le_trans q1 q2, wf_i64 wk, ws⟩

theorem open_items {fuel n c : Nat} {A : Option Addr} {x : DataW H × List MemPlace} (h : DataW.trod enc Try.prog w 0 (fun _ => true) true fuel 36 [.slice A n c] = some x) : n ≤ maxLen ∧ ∃ l, RdIt w w.heap.size A n l := by
  obtain ⟨h1, h2, l, css, hl, hc, hR, hlen, hrd, _⟩ := open_list Try.underlying36 (sz := 4) (by kernel_rfl) (by decide) h (fun (a : ItemD) cs => ItemC w w.heap.size a cs) (fun m cs y hy => trod_item hy)
  exact ⟨Nat.le_trans h1 h2, l, css, hl, hc, hR, hlen, hrd⟩

set_option maxRecDepth 100000 in
theorem trod_side {m : Nat} {cs : List Value} {y : DataW H × List MemPlace} (h : DataW.trod enc Try.prog w 0 (fun _ => true) true m 38 cs = some y) : ∃ s : SideD, SideC w w.heap.size s cs := by
  have c0 : Try.prog.cellsOf 38 = 6 := by kernel_rfl
  have k0 : Try.prog.cellsOf 4 = 1 := by kernel_rfl
  have k1 : Try.prog.cellsOf 36 = 1 := by kernel_rfl
  have k2 : Try.prog.cellsOf 3 = 1 := by kernel_rfl
  obtain ⟨xs, n, _, _, hl, hlen, hf⟩ := DataW.trod_struct Try.underlying38 h
  rw [c0] at hl
  have hlen2 : xs.length = 6 := hlen
  clear hlen
  match cs, hl with
  | [u0, u1, u2, u3, u4, u5], _ =>
    obtain ⟨y0, hy0⟩ : ∃ z, xs[0]? = some z := ⟨_, List.getElem?_eq_getElem (by omega)⟩
    have f0 : DataW.trod enc Try.prog w 0 (fun _ => true) true n 4 (List.take (Try.prog.cellsOf 4) (List.drop 0 [u0, u1, u2, u3, u4, u5])) = xs[0]? := hf 0 _ rfl
    rw [k0, hy0] at f0
    have g0 : DataW.trod enc Try.prog w 0 (fun _ => true) true n 4 [u0] = some y0 := f0
    obtain ⟨y1, hy1⟩ : ∃ z, xs[1]? = some z := ⟨_, List.getElem?_eq_getElem (by omega)⟩
    have f1 : DataW.trod enc Try.prog w 0 (fun _ => true) true n 4 (List.take (Try.prog.cellsOf 4) (List.drop 1 [u0, u1, u2, u3, u4, u5])) = xs[1]? := hf 1 _ rfl
    rw [k0, hy1] at f1
    have g1 : DataW.trod enc Try.prog w 0 (fun _ => true) true n 4 [u1] = some y1 := f1
    obtain ⟨y2, hy2⟩ : ∃ z, xs[2]? = some z := ⟨_, List.getElem?_eq_getElem (by omega)⟩
    have f2 : DataW.trod enc Try.prog w 0 (fun _ => true) true n 36 (List.take (Try.prog.cellsOf 36) (List.drop 2 [u0, u1, u2, u3, u4, u5])) = xs[2]? := hf 2 _ rfl
    rw [k1, hy2] at f2
    have g2 : DataW.trod enc Try.prog w 0 (fun _ => true) true n 36 [u2] = some y2 := f2
    obtain ⟨y3, hy3⟩ : ∃ z, xs[3]? = some z := ⟨_, List.getElem?_eq_getElem (by omega)⟩
    have f3 : DataW.trod enc Try.prog w 0 (fun _ => true) true n 36 (List.take (Try.prog.cellsOf 36) (List.drop 3 [u0, u1, u2, u3, u4, u5])) = xs[3]? := hf 3 _ rfl
    rw [k1, hy3] at f3
    have g3 : DataW.trod enc Try.prog w 0 (fun _ => true) true n 36 [u3] = some y3 := f3
    obtain ⟨y4, hy4⟩ : ∃ z, xs[4]? = some z := ⟨_, List.getElem?_eq_getElem (by omega)⟩
    have f4 : DataW.trod enc Try.prog w 0 (fun _ => true) true n 36 (List.take (Try.prog.cellsOf 36) (List.drop 4 [u0, u1, u2, u3, u4, u5])) = xs[4]? := hf 4 _ rfl
    rw [k1, hy4] at f4
    have g4 : DataW.trod enc Try.prog w 0 (fun _ => true) true n 36 [u4] = some y4 := f4
    obtain ⟨y5, hy5⟩ : ∃ z, xs[5]? = some z := ⟨_, List.getElem?_eq_getElem (by omega)⟩
    have f5 : DataW.trod enc Try.prog w 0 (fun _ => true) true n 3 (List.take (Try.prog.cellsOf 3) (List.drop 5 [u0, u1, u2, u3, u4, u5])) = xs[5]? := hf 5 _ rfl
    rw [k2, hy5] at f5
    have g5 : DataW.trod enc Try.prog w 0 (fun _ => true) true n 3 [u5] = some y5 := f5
    obtain ⟨vs, es, _⟩ := DataW.trod_bool Try.underlying4 g0
    obtain ⟨vf, ef, _⟩ := DataW.trod_bool Try.underlying4 g1
    obtain ⟨A2, n2, c2, rfl⟩ := trod_slice_one Try.underlying36 g2
    obtain ⟨m2, l2, h2⟩ := open_items g2
    obtain ⟨A3, n3, c3, rfl⟩ := trod_slice_one Try.underlying36 g3
    obtain ⟨m3, l3, h3⟩ := open_items g3
    obtain ⟨A4, n4, c4, rfl⟩ := trod_slice_one Try.underlying36 g4
    obtain ⟨m4, l4, h4⟩ := open_items g4
    obtain ⟨vc, ec, _, wc⟩ := DataW.trod_int Try.underlying3 g5
    simp only [List.cons.injEq, and_true] at es ef ec
    subst es ef ec
    exact ⟨⟨vs, vf, l2, l3, l4, vc⟩, A2, n2, c2, A3, n3, c3, A4, n4, c4, rfl, h2, h3, h4, m2, m3, m4, wf_i64 wc⟩

set_option maxRecDepth 100000 in
theorem trod_part {m : Nat} {cs : List Value} {y : DataW H × List MemPlace} (h : DataW.trod enc Try.prog w 0 (fun _ => true) true m 40 cs = some y) : ∃ p : PartD, PartC w w.heap.size p cs := by
  have c0 : Try.prog.cellsOf 40 = 16 := by kernel_rfl
  have k0 : Try.prog.cellsOf 3 = 1 := by kernel_rfl
  have k1 : Try.prog.cellsOf 9 = 1 := by kernel_rfl
  have k2 : Try.prog.cellsOf 23 = 1 := by kernel_rfl
  have k3 : Try.prog.cellsOf 38 = 6 := by kernel_rfl
  obtain ⟨xs, n, _, _, hl, hlen, hf⟩ := DataW.trod_struct Try.underlying40 h
  rw [c0] at hl
  have hlen2 : xs.length = 6 := hlen
  clear hlen
  match cs, hl with
  | [u0, u1, u2, u3, u4, u5, u6, u7, u8, u9, u10, u11, u12, u13, u14, u15], _ =>
    obtain ⟨y0, hy0⟩ : ∃ z, xs[0]? = some z := ⟨_, List.getElem?_eq_getElem (by omega)⟩
    have f0 : DataW.trod enc Try.prog w 0 (fun _ => true) true n 3 (List.take (Try.prog.cellsOf 3) (List.drop 0 [u0, u1, u2, u3, u4, u5, u6, u7, u8, u9, u10, u11, u12, u13, u14, u15])) = xs[0]? := hf 0 _ rfl
    rw [k0, hy0] at f0
    have g0 : DataW.trod enc Try.prog w 0 (fun _ => true) true n 3 [u0] = some y0 := f0
    obtain ⟨y1, hy1⟩ : ∃ z, xs[1]? = some z := ⟨_, List.getElem?_eq_getElem (by omega)⟩
    have f1 : DataW.trod enc Try.prog w 0 (fun _ => true) true n 9 (List.take (Try.prog.cellsOf 9) (List.drop 1 [u0, u1, u2, u3, u4, u5, u6, u7, u8, u9, u10, u11, u12, u13, u14, u15])) = xs[1]? := hf 1 _ rfl
    rw [k1, hy1] at f1
    have g1 : DataW.trod enc Try.prog w 0 (fun _ => true) true n 9 [u1] = some y1 := f1
    obtain ⟨y2, hy2⟩ : ∃ z, xs[2]? = some z := ⟨_, List.getElem?_eq_getElem (by omega)⟩
    have f2 : DataW.trod enc Try.prog w 0 (fun _ => true) true n 23 (List.take (Try.prog.cellsOf 23) (List.drop 2 [u0, u1, u2, u3, u4, u5, u6, u7, u8, u9, u10, u11, u12, u13, u14, u15])) = xs[2]? := hf 2 _ rfl
    rw [k2, hy2] at f2
    have g2 : DataW.trod enc Try.prog w 0 (fun _ => true) true n 23 [u2] = some y2 := f2
    obtain ⟨y3, hy3⟩ : ∃ z, xs[3]? = some z := ⟨_, List.getElem?_eq_getElem (by omega)⟩
    have f3 : DataW.trod enc Try.prog w 0 (fun _ => true) true n 3 (List.take (Try.prog.cellsOf 3) (List.drop 3 [u0, u1, u2, u3, u4, u5, u6, u7, u8, u9, u10, u11, u12, u13, u14, u15])) = xs[3]? := hf 3 _ rfl
    rw [k0, hy3] at f3
    have g3 : DataW.trod enc Try.prog w 0 (fun _ => true) true n 3 [u3] = some y3 := f3
    obtain ⟨y4, hy4⟩ : ∃ z, xs[4]? = some z := ⟨_, List.getElem?_eq_getElem (by omega)⟩
    have f4 : DataW.trod enc Try.prog w 0 (fun _ => true) true n 38 (List.take (Try.prog.cellsOf 38) (List.drop 4 [u0, u1, u2, u3, u4, u5, u6, u7, u8, u9, u10, u11, u12, u13, u14, u15])) = xs[4]? := hf 4 _ rfl
    rw [k3, hy4] at f4
    have g4 : DataW.trod enc Try.prog w 0 (fun _ => true) true n 38 [u4, u5, u6, u7, u8, u9] = some y4 := f4
    obtain ⟨y5, hy5⟩ : ∃ z, xs[5]? = some z := ⟨_, List.getElem?_eq_getElem (by omega)⟩
    have f5 : DataW.trod enc Try.prog w 0 (fun _ => true) true n 38 (List.take (Try.prog.cellsOf 38) (List.drop 10 [u0, u1, u2, u3, u4, u5, u6, u7, u8, u9, u10, u11, u12, u13, u14, u15])) = xs[5]? := hf 5 _ rfl
    rw [k3, hy5] at f5
    have g5 : DataW.trod enc Try.prog w 0 (fun _ => true) true n 38 [u10, u11, u12, u13, u14, u15] = some y5 := f5
    obtain ⟨vk, ek, _, wk⟩ := DataW.trod_int Try.underlying3 g0
    obtain ⟨vs, es, _, ws⟩ := DataW.trod_string Try.underlying9 g1
    obtain ⟨A, q, c, rfl⟩ := trod_slice_one Try.underlying23 g2
    obtain ⟨q1, q2, ⟨l, hl⟩, _⟩ := open_spans g2
    obtain ⟨vd, ed, _, wd⟩ := DataW.trod_int Try.underlying3 g3
    obtain ⟨sl, hsl⟩ := trod_side g4
    obtain ⟨sr, hsr⟩ := trod_side g5
    simp only [List.cons.injEq, and_true] at ek es ed
    subst ek es ed
    exact ⟨⟨vk, vs, l, vd, sl, sr⟩, A, q, c, _, _, rfl, hl, Nat.le_trans q1 q2, hsl, hsr, wf_i64 wk, wf_i64 wd, ws⟩

theorem open_parts {fuel n c : Nat} {A : Option Addr} {x : DataW H × List MemPlace} (h : DataW.trod enc Try.prog w 0 (fun _ => true) true fuel 22 [.slice A n c] = some x) :
    n ≤ c ∧ c ≤ maxLen ∧ (∃ l, RdP w w.heap.size A n l) ∧ ((x.1 = .nil ∧ c = 0) ∨ ∃ elems spare, x.1 = .slice elems spare ∧ elems.length + spare.length = c) := by
  obtain ⟨h1, h2, l, css, hl, hc, hR, hlen, hrd, hx⟩ := open_list Try.underlying22 (sz := 16) (by kernel_rfl) (by decide) h (fun (a : PartD) cs => PartC w w.heap.size a cs) (fun m cs y hy => trod_part hy)
  exact ⟨h1, h2, ⟨l, css, hl, hc, hR, hlen, hrd⟩, hx⟩

end

end Go.Proofs.Ythcjiainpaebfaa
