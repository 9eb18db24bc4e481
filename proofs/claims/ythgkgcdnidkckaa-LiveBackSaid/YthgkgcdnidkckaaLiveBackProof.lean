/- LiveBack: WHAT WAS TYPED IS TAKEN BACK: runes, and as many steps back, leave what there was: for every list of keys and every list of runes the law returns true and leaves what it was handed as it was. No condition. -/
import Derived.Test.YthgkgcdnidkckaaLiveBackWalk
import Derived.Test.YthgkgcdnidkckaaOpenLive
namespace Go.Proofs.Ythgkgcdnidkckaa
open Go.RowKit Go.ChangeShapes Go.WideShapes Go.ChangeAt

set_option maxRecDepth 100000 in
theorem live_back_lifted (os : Os) (started : os.Started) (H : Type) (enc : TypeId × Value → H) :
    ReturnsInHanded {} Try.checked os 4 .any (Rows.liveBackSpec.pre6 enc Try.prog Try.f4 Rows.liveBackRow.domain false) (Rows.liveBackSpec.post enc Try.prog Try.f4 false true false false) := by
  refine returnsInHanded_of_change_sized (C := Try.checked) own_knob started (by kernel_rfl) Try.func4
    (ChangeSpec.witness6 (enc := enc) (C := Try.checked) false ⟨#[], #[.slice none 0 0, .slice none 0 0], []⟩ 8 (by kernel_rfl) (by kernel_rfl) (by kernel_rfl) (by kernel_rfl)) ?_
  intro W base args ds gs before hval hW _ hsz0 _
  have hsz : (DataW.weightsEach Try.prog (Try.f4.params.toList ++ Rows.liveBackSpec.plain.varTypes Try.prog) (ds ++ gs)).all (· ≤ reachBytes) = true := hsz0
  have hW' := hW
  obtain ⟨p, q, hA0, hV, rfl, hfz, hnd⟩ := hW
  have hA : DataW.TrodAll enc Try.prog W 0 (fun _ => true) true Try.f4.params.toList args.toList ds p := hA0
  have hv2 := hval
  rw [Try.params4] at hA hv2 hsz
  obtain ⟨v0, v1, d0, d1, p0, p1, rfl, rfl, rfl, h0, h1⟩ := trodAll_two hA
  obtain ⟨rfl, rfl⟩ := trodVars_none hV
  obtain ⟨A, n, c, rfl⟩ := okWide_slice Try.underlying28 (hv2 0 _ v0 rfl rfl)
  obtain ⟨C, m, d, rfl⟩ := okWide_slice Try.underlying25 (hv2 1 _ v1 rfl rfl)
  obtain ⟨f0, h0⟩ := h0
  obtain ⟨f1, h1⟩ := h1
  obtain ⟨hn1, hn2, ⟨ks, hks⟩, hx0⟩ := open_keys (by simpa [Value.cells] using h0)
  obtain ⟨hm1, hm2, ⟨rs, hrs⟩, hx1⟩ := open_runes (by simpa [Value.cells] using h1)
  have hbd : m ≤ 1152921504606846975 := by
    rcases hx1 with ⟨_, hd⟩ | ⟨elems, spare, hd, hl⟩
    · omega
    · simp only at hd
      subst hd
      have := sized_slice hsz (j := 1) (t := 25) (e := 21) rfl rfl Try.underlying25
      rw [show Try.prog.bytesOf 21 = 4 from by kernel_rfl] at this
      simp only [reachBytes] at this
      omega
  refine (live_back A C n c m d ks rs W (by unfold maxLen at hn2; omega) hbd hks hrs).mono fun e W' ⟨he, hb⟩ => ⟨_, he, ?_⟩
  exact law_post Try.underlying4 rfl rfl laid_out (by kernel_rfl) hW' rfl hb

theorem live_back_holds : Rows.LiveBackSaid :=
  OpenClaim.holds_of_wide 4 Try.f4 rfl rfl rfl rfl rfl rfl rfl ⟨rfl, rfl, rfl, rfl, rfl⟩ rfl rfl rfl rfl rfl (by kernel_rfl) Try.func4 (by kernel_rfl)
    (of_decide_eq_true (by kernel_rfl)) (by unfold Func.isWrapper; first | (rw [if_pos (by decide +kernel)]; kernel_rfl) | (rw [if_neg (by decide +kernel)]; exact ⟨rfl, rfl⟩))
    (fun os started H enc _ => live_back_lifted os started H enc)

end Go.Proofs.Ythgkgcdnidkckaa
