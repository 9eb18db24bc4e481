/- LiveShows: what is shown is what was typed, turned: for every script, every list of keys and every number the law returns true and leaves what it was handed as it was. No condition. -/
import Derived.Test.YtfmebbnccjaadaaLiveShows
import Derived.Test.YtfmebbnccjaadaaOpenScript
import Derived.Test.YtfmebbnccjaadaaOpenKeys
import Derived.Test.YtfmebbnccjaadaaRows
import Derived.Test.YtfmebbnccjaadaaKnob
import Derived.Test.YtfmebbnccjaadaaOpen
import Derived.Test.YtfmebbnccjaadaaBulk
namespace Go.Proofs.Ytfmebbnccjaadaa
open Go.RowKit Go.ChangeShapes Go.WideShapes Go.ChangeAt
open Go.ChangeMaps (open_string shut_string)

set_option maxRecDepth 100000 in
set_option maxHeartbeats 1000000 in
theorem live_shows_lifted (os : Os) (started : os.Started) (H : Type) (enc : TypeId × Value → H) :
    ReturnsInHanded {} Try.checked os 8 .any (Rows.liveShowsSpec.pre6 enc Try.prog Try.f8 Rows.liveShowsRow.domain false) (Rows.liveShowsSpec.post enc Try.prog Try.f8 false true false false) := by
  refine returnsInHanded_of_change_sized (C := Try.checked) own_knob started (by kernel_rfl) Try.func8
    (ChangeSpec.witness6 (enc := enc) (C := Try.checked) false ⟨#[], #[.agg #[.bool false, .slice none 0 0, .slice none 0 0], .slice none 0 0, .int .i64 0], []⟩ 8 (by kernel_rfl) (by kernel_rfl) (by kernel_rfl) (by kernel_rfl)) ?_
  intro W base args ds gs before hval hW _ hsz0 _
  have hW' := hW
  have hsz : (DataW.weightsEach Try.prog (Try.f8.params.toList ++ Rows.liveShowsSpec.plain.varTypes Try.prog) (ds ++ gs)).all (· ≤ reachBytes) = true := hsz0
  obtain ⟨p, q, hA0, hV, rfl, hfz, hnd⟩ := hW
  have hA : DataW.TrodAll enc Try.prog W 0 (fun _ => true) true Try.f8.params.toList args.toList ds p := hA0
  have hv2 : ∀ (j : Nat) t v, Try.f8.params[j]? = some t → args[j]? = some v → Value.okWide Try.prog W .any base t v := hval
  rw [Try.params8] at hA hv2 hsz
  obtain ⟨v0, v1, v2, d0, d1, d2, p0, p1, p2, rfl, rfl, rfl, h0, h1, h2⟩ := trodAll_three hA
  obtain ⟨rfl, rfl⟩ := trodVars_none hV
  obtain ⟨cs0, rfl, _⟩ := okWide_struct Try.underlying51 (hv2 0 _ v0 rfl rfl)
  obtain ⟨f0, h0⟩ := h0
  obtain ⟨s0, B0, C0, b0, bc0, d0', dc0, hcs0, hsa0⟩ := open_script (by simpa [Value.cells] using h0)
  obtain rfl : cs0 = #[.bool s0.only?, .slice B0 b0 bc0, .slice C0 d0' dc0] := Array.toList_inj.1 hcs0
  obtain ⟨A1, n1, c1, rfl⟩ := okWide_slice Try.underlying57 (hv2 1 _ v1 rfl rfl)
  obtain ⟨f1, h1⟩ := h1
  obtain ⟨hn1, hm1, ⟨l1, hl1⟩, hx1⟩ := open_keys (by simpa [Value.cells] using h1)
  obtain ⟨r2, rfl, rfl, rfl, wr2⟩ := open_int Try.underlying3 (hv2 2 _ v2 rfl rfl) h2
  refine (live_shows Any0 s0 l1 r2 B0 C0 A1 b0 bc0 d0' dc0 n1 c1 W hsa0 (Nat.le_trans hn1 hm1) hn1 hl1).mono fun e W' ⟨he, hb⟩ => ⟨_, he, ?_⟩
  exact law_post Try.underlying4 rfl rfl laid_out (by kernel_rfl) hW' rfl hb

theorem live_shows_holds : Rows.LiveShowsSaid :=
  OpenClaim.holds_of_wide 8 Try.f8 rfl rfl rfl rfl rfl rfl rfl ⟨rfl, rfl, rfl, rfl, rfl⟩ rfl rfl rfl rfl rfl (by kernel_rfl) Try.func8 (by kernel_rfl)
    (of_decide_eq_true (by kernel_rfl)) (by unfold Func.isWrapper; first | (rw [if_pos (by decide +kernel)]; kernel_rfl) | (rw [if_neg (by decide +kernel)]; exact ⟨rfl, rfl⟩))
    (fun os started H enc _ => live_shows_lifted os started H enc)

end Go.Proofs.Ytfmebbnccjaadaa
