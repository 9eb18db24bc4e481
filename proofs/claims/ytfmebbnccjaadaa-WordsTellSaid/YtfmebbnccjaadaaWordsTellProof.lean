/- WordsTell: words of a text, great letters, a script word by word: for all letters, scripts and texts the law returns true and leaves what it was handed as it was. No condition. -/
import Derived.Test.YtfmebbnccjaadaaWordsLaw
import Derived.Test.YtfmebbnccjaadaaOpenSpans
import Derived.Test.YtfmebbnccjaadaaOpenScript
import Derived.Test.YtfmebbnccjaadaaOpenRunes
import Derived.Test.YtfmebbnccjaadaaRows
import Derived.Test.YtfmebbnccjaadaaKnob
import Derived.Test.YtfmebbnccjaadaaOpen
import Derived.Test.YtfmebbnccjaadaaBulk
namespace Go.Proofs.Ytfmebbnccjaadaa
open Go.RowKit Go.ChangeShapes Go.WideShapes Go.ChangeAt
open Go.ChangeMaps (open_string shut_string)

set_option maxRecDepth 100000 in
set_option maxHeartbeats 1000000 in
theorem words_tell_lifted (os : Os) (started : os.Started) (H : Type) (enc : TypeId × Value → H) :
    ReturnsInHanded {} Try.checked os 9 .any (Rows.wordsTellSpec.pre6 enc Try.prog Try.f9 Rows.wordsTellRow.domain false) (Rows.wordsTellSpec.post enc Try.prog Try.f9 false true false false) := by
  refine returnsInHanded_of_change_sized (C := Try.checked) own_knob started (by kernel_rfl) Try.func9
    (ChangeSpec.witness6 (enc := enc) (C := Try.checked) false ⟨#[], #[.slice none 0 0, .agg #[.bool false, .slice none 0 0, .slice none 0 0], .slice none 0 0], []⟩ 8 (by kernel_rfl) (by kernel_rfl) (by kernel_rfl) (by kernel_rfl)) ?_
  intro W base args ds gs before hval hW _ hsz0 _
  have hW' := hW
  have hsz : (DataW.weightsEach Try.prog (Try.f9.params.toList ++ Rows.wordsTellSpec.plain.varTypes Try.prog) (ds ++ gs)).all (· ≤ reachBytes) = true := hsz0
  obtain ⟨p, q, hA0, hV, rfl, hfz, hnd⟩ := hW
  have hA : DataW.TrodAll enc Try.prog W 0 (fun _ => true) true Try.f9.params.toList args.toList ds p := hA0
  have hv2 : ∀ (j : Nat) t v, Try.f9.params[j]? = some t → args[j]? = some v → Value.okWide Try.prog W .any base t v := hval
  rw [Try.params9] at hA hv2 hsz
  obtain ⟨v0, v1, v2, d0, d1, d2, p0, p1, p2, rfl, rfl, rfl, h0, h1, h2⟩ := trodAll_three hA
  obtain ⟨rfl, rfl⟩ := trodVars_none hV
  obtain ⟨A0, n0, c0, rfl⟩ := okWide_slice Try.underlying48 (hv2 0 _ v0 rfl rfl)
  obtain ⟨f0, h0⟩ := h0
  obtain ⟨hn0, hm0, ⟨l0, hl0⟩, hx0⟩ := open_spans (by simpa [Value.cells] using h0)
  obtain ⟨cs1, rfl, _⟩ := okWide_struct Try.underlying51 (hv2 1 _ v1 rfl rfl)
  obtain ⟨f1, h1⟩ := h1
  obtain ⟨s1, B1, C1, b1, bc1, d1', dc1, hcs1, hsa1⟩ := open_script (by simpa [Value.cells] using h1)
  obtain rfl : cs1 = #[.bool s1.only?, .slice B1 b1 bc1, .slice C1 d1' dc1] := Array.toList_inj.1 hcs1
  obtain ⟨A2, n2, c2, rfl⟩ := okWide_slice Try.underlying23 (hv2 2 _ v2 rfl rfl)
  obtain ⟨f2, h2⟩ := h2
  obtain ⟨hn2, hm2, ⟨l2, hl2⟩, hx2⟩ := open_runes (by simpa [Value.cells] using h2)
  refine (words_law Any0 s1 A0 B1 C1 A2 n0 c0 b1 bc1 d1' dc1 n2 c2 l0 l2 W (by have := hn0; have := hm0; simp only [maxLen] at this; omega) hl0 hsa1 (Nat.le_trans hn2 hm2) hn2 hl2).mono fun e W' ⟨he, hb⟩ => ⟨_, he, ?_⟩
  exact law_post Try.underlying4 rfl rfl laid_out (by kernel_rfl) hW' rfl hb

theorem words_tell_holds : Rows.WordsTellSaid :=
  OpenClaim.holds_of_wide 9 Try.f9 rfl rfl rfl rfl rfl rfl rfl ⟨rfl, rfl, rfl, rfl, rfl⟩ rfl rfl rfl rfl rfl (by kernel_rfl) Try.func9 (by kernel_rfl)
    (of_decide_eq_true (by kernel_rfl)) (by unfold Func.isWrapper; first | (rw [if_pos (by decide +kernel)]; kernel_rfl) | (rw [if_neg (by decide +kernel)]; exact ⟨rfl, rfl⟩))
    (fun os started H enc _ => words_tell_lifted os started H enc)

end Go.Proofs.Ytfmebbnccjaadaa
