/- FindTells: what is found: for every list of rules, every text and every pattern the law returns true and leaves what it was handed as it was. No condition. -/
import Derived.Test.YtfmebbnccjaadaaFindLaw
import Derived.Test.YtfmebbnccjaadaaOpenRules
import Derived.Test.YtfmebbnccjaadaaOpenRunes
import Derived.Test.YtfmebbnccjaadaaRows
import Derived.Test.YtfmebbnccjaadaaKnob
import Derived.Test.YtfmebbnccjaadaaOpen
import Derived.Test.YtfmebbnccjaadaaBulk
namespace Go.Proofs.Ytfmebbnccjaadaa
open Go.RowKit Go.ChangeShapes Go.WideShapes Go.ChangeAt
open Go.ChangeMaps (open_string shut_string)

set_option maxRecDepth 100000 in
set_option maxHeartbeats 1000000 in
theorem find_law_lifted (os : Os) (started : os.Started) (H : Type) (enc : TypeId × Value → H) :
    ReturnsInHanded {} Try.checked os 5 .any (Rows.findTellsSpec.pre6 enc Try.prog Try.f5 Rows.findTellsRow.domain false) (Rows.findTellsSpec.post enc Try.prog Try.f5 false true false false) := by
  refine returnsInHanded_of_change_sized (C := Try.checked) own_knob started (by kernel_rfl) Try.func5
    (ChangeSpec.witness6 (enc := enc) (C := Try.checked) false ⟨#[], #[.slice none 0 0, .slice none 0 0, .slice none 0 0], []⟩ 8 (by kernel_rfl) (by kernel_rfl) (by kernel_rfl) (by kernel_rfl)) ?_
  intro W base args ds gs before hval hW _ hsz0 _
  have hW' := hW
  have hsz : (DataW.weightsEach Try.prog (Try.f5.params.toList ++ Rows.findTellsSpec.plain.varTypes Try.prog) (ds ++ gs)).all (· ≤ reachBytes) = true := hsz0
  obtain ⟨p, q, hA0, hV, rfl, hfz, hnd⟩ := hW
  have hA : DataW.TrodAll enc Try.prog W 0 (fun _ => true) true Try.f5.params.toList args.toList ds p := hA0
  have hv2 : ∀ (j : Nat) t v, Try.f5.params[j]? = some t → args[j]? = some v → Value.okWide Try.prog W .any base t v := hval
  rw [Try.params5] at hA hv2 hsz
  obtain ⟨v0, v1, v2, d0, d1, d2, p0, p1, p2, rfl, rfl, rfl, h0, h1, h2⟩ := trodAll_three hA
  obtain ⟨rfl, rfl⟩ := trodVars_none hV
  obtain ⟨A0, n0, c0, rfl⟩ := okWide_slice Try.underlying22 (hv2 0 _ v0 rfl rfl)
  obtain ⟨f0, h0⟩ := h0
  obtain ⟨hn0, hm0, ⟨l0, hl0⟩, hx0⟩ := open_rules (by simpa [Value.cells] using h0)
  obtain ⟨A1, n1, c1, rfl⟩ := okWide_slice Try.underlying23 (hv2 1 _ v1 rfl rfl)
  obtain ⟨f1, h1⟩ := h1
  obtain ⟨hn1, hm1, ⟨l1, hl1⟩, hx1⟩ := open_runes (by simpa [Value.cells] using h1)
  obtain ⟨A2, n2, c2, rfl⟩ := okWide_slice Try.underlying23 (hv2 2 _ v2 rfl rfl)
  obtain ⟨f2, h2⟩ := h2
  obtain ⟨hn2, hm2, ⟨l2, hl2⟩, hx2⟩ := open_runes (by simpa [Value.cells] using h2)
  refine (find_law A0 A1 A2 n0 c0 n1 c1 n2 c2 l0 l1 l2 W (Nat.le_trans hn0 hm0) hl0 (Nat.le_trans hn1 hm1) hl1 (Nat.le_trans hn2 hm2) hl2).mono fun e W' ⟨he, hb⟩ => ⟨_, he, ?_⟩
  exact law_post Try.underlying4 rfl rfl laid_out (by kernel_rfl) hW' rfl hb

theorem find_law_holds : Rows.FindTellsSaid :=
  OpenClaim.holds_of_wide 5 Try.f5 rfl rfl rfl rfl rfl rfl rfl ⟨rfl, rfl, rfl, rfl, rfl⟩ rfl rfl rfl rfl rfl (by kernel_rfl) Try.func5 (by kernel_rfl)
    (of_decide_eq_true (by kernel_rfl)) (by unfold Func.isWrapper; first | (rw [if_pos (by decide +kernel)]; kernel_rfl) | (rw [if_neg (by decide +kernel)]; exact ⟨rfl, rfl⟩))
    (fun os started H enc _ => find_law_lifted os started H enc)

end Go.Proofs.Ytfmebbnccjaadaa
