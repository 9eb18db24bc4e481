/- An argument that is a script. -/
import Derived.Test.YtfmebbnccjaadaaOpenRules
import Derived.Test.YtfmebbnccjaadaaScript
namespace Go.Proofs.Ytfmebbnccjaadaa
open Go.RowKit Go.ChangeShapes Go.WideShapes Go.ChangeAt

section
variable {H : Type} {enc : TypeId × Value → H} {w : World}
set_option maxRecDepth 100000 in
theorem trod_pass {m : Nat} {cs : List Value} {y : DataW H × List MemPlace} (h : DataW.trod enc Try.prog w 0 (fun _ => true) true m 104 cs = some y) : ∃ p : PassD, PassC w Any0 p cs := by
  have c0 : Try.prog.cellsOf 104 = 2 := by kernel_rfl
  have k0 : Try.prog.cellsOf 9 = 1 := by kernel_rfl
  have k1 : Try.prog.cellsOf 22 = 1 := by kernel_rfl
  obtain ⟨xs, n, _, _, hl, hlen, hf⟩ := DataW.trod_struct Try.underlying104 h
  rw [c0] at hl
  have hlen2 : xs.length = 2 := hlen
  clear hlen
  match cs, hl with
  | [u0, u1], _ =>
    obtain ⟨y0, hy0⟩ : ∃ z, xs[0]? = some z := ⟨_, List.getElem?_eq_getElem (by omega)⟩
    have f0 : DataW.trod enc Try.prog w 0 (fun _ => true) true n 9 (List.take (Try.prog.cellsOf 9) (List.drop 0 [u0, u1])) = xs[0]? := hf 0 _ rfl
    rw [k0, hy0] at f0
    have g0 : DataW.trod enc Try.prog w 0 (fun _ => true) true n 9 [u0] = some y0 := f0
    obtain ⟨y1, hy1⟩ : ∃ z, xs[1]? = some z := ⟨_, List.getElem?_eq_getElem (by omega)⟩
    have f1 : DataW.trod enc Try.prog w 0 (fun _ => true) true n 22 (List.take (Try.prog.cellsOf 22) (List.drop 1 [u0, u1])) = xs[1]? := hf 1 _ rfl
    rw [k1, hy1] at f1
    have g1 : DataW.trod enc Try.prog w 0 (fun _ => true) true n 22 [u1] = some y1 := f1
    obtain ⟨s0, e0, _⟩ := DataW.trod_string Try.underlying9 g0
    obtain ⟨A, n1, c1, rfl⟩ := trod_slice_one' Try.underlying22 g1
    obtain ⟨q1, q2, ⟨l, hl⟩, _⟩ := open_rules g1
    simp only [List.cons.injEq, and_true] at e0
    subst e0
    exact ⟨⟨s0, l⟩, _, rfl, A, n1, c1, rfl, hl, Nat.le_trans q1 q2⟩
set_option maxRecDepth 100000 in
theorem open_script {m : Nat} {cs : List Value} {y : DataW H × List MemPlace} (h : DataW.trod enc Try.prog w 0 (fun _ => true) true m 51 cs = some y) :
    ∃ (s : ScriptD) (A1 A2 : Option Addr) (n1 c1 n2 c2 : Nat), cs = [.bool s.only?, .slice A1 n1 c1, .slice A2 n2 c2] ∧ ScriptAt w Any0 s A1 n1 A2 n2 := by
  have c0 : Try.prog.cellsOf 51 = 3 := by kernel_rfl
  have k0 : Try.prog.cellsOf 4 = 1 := by kernel_rfl
  have k1 : Try.prog.cellsOf 48 = 1 := by kernel_rfl
  have k2 : Try.prog.cellsOf 49 = 1 := by kernel_rfl
  obtain ⟨xs, n, _, _, hl, hlen, hf⟩ := DataW.trod_struct Try.underlying51 h
  rw [c0] at hl
  have hlen2 : xs.length = 3 := hlen
  clear hlen
  match cs, hl with
  | [u0, u1, u2], _ =>
    obtain ⟨y0, hy0⟩ : ∃ z, xs[0]? = some z := ⟨_, List.getElem?_eq_getElem (by omega)⟩
    have f0 : DataW.trod enc Try.prog w 0 (fun _ => true) true n 4 (List.take (Try.prog.cellsOf 4) (List.drop 0 [u0, u1, u2])) = xs[0]? := hf 0 _ rfl
    rw [k0, hy0] at f0
    have g0 : DataW.trod enc Try.prog w 0 (fun _ => true) true n 4 [u0] = some y0 := f0
    obtain ⟨y1, hy1⟩ : ∃ z, xs[1]? = some z := ⟨_, List.getElem?_eq_getElem (by omega)⟩
    have f1 : DataW.trod enc Try.prog w 0 (fun _ => true) true n 48 (List.take (Try.prog.cellsOf 48) (List.drop 1 [u0, u1, u2])) = xs[1]? := hf 1 _ rfl
    rw [k1, hy1] at f1
    have g1 : DataW.trod enc Try.prog w 0 (fun _ => true) true n 48 [u1] = some y1 := f1
    obtain ⟨y2, hy2⟩ : ∃ z, xs[2]? = some z := ⟨_, List.getElem?_eq_getElem (by omega)⟩
    have f2 : DataW.trod enc Try.prog w 0 (fun _ => true) true n 49 (List.take (Try.prog.cellsOf 49) (List.drop 2 [u0, u1, u2])) = xs[2]? := hf 2 _ rfl
    rw [k2, hy2] at f2
    have g2 : DataW.trod enc Try.prog w 0 (fun _ => true) true n 49 [u2] = some y2 := f2
    obtain ⟨b0, e0, _⟩ := DataW.trod_bool Try.underlying4 g0
    obtain ⟨A1, n1, c1, rfl⟩ := trod_slice_one' Try.underlying48 g1
    obtain ⟨A2, n2, c2, rfl⟩ := trod_slice_one' Try.underlying49 g2
    obtain ⟨q1, q2, ⟨l1, hl1⟩, _⟩ := open_spans g1
    obtain ⟨r1, r2, l2, css, h1, h2, hR, hlen, hrd, _⟩ := open_list Try.underlying49 (sz := 2) (by kernel_rfl) (by decide) g2 (fun (p : PassD) cs => PassC w Any0 p cs) (fun m cs y hy => trod_pass hy)
    simp only [List.cons.injEq, and_true] at e0
    subst e0
    exact ⟨⟨b0, l1, l2⟩, A1, A2, n1, c1, n2, c2, rfl, ⟨any_of_rd hl1, ⟨css, h1, h2, hR, hlen, any_of_rd hrd⟩, Nat.le_trans q1 q2, Nat.le_trans r1 r2⟩⟩
end

end Go.Proofs.Ytfmebbnccjaadaa
