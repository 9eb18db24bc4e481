/- SetsynSigns: SIGNS ARE OPERATORS: of any two sets the law returns true and leaves them as they were (the full form). Go's own variables are as their text lays them (the card ties them). -/
import Derived.Test.YthnhbcohfoodlaaGreatDoorSignsWalk
import Derived.Test.YthnhbcohfoodlaaGreatDoorOpenSpans
import Derived.Test.YthnhbcohfoodlaaGreatDoorOpen
import Derived.Test.YthnhbcohfoodlaaGreatDoorBulk
import Derived.Test.YthnhbcohfoodlaaGreatDoorErrLaid
import Derived.Test.YthnhbcohfoodlaaGreatDoorCards
import Derived.Test.YthnhbcohfoodlaaGreatDoorTie
namespace Go.Proofs.YthnhbcohfoodlaaGreatDoor
open Go.RowKit Go.ChangeShapes Go.WideShapes Go.ChangeAt Go.Shelf
open Go.ChangeMaps (open_string shut_string)

theorem setsyn_signs_reads (os : Os) {H : Type} (enc : TypeId × Value → H) :
    (OpenSpec.ofChange Rows.setsynSignsSpec).preRow enc Tryz.prog Tryz.f5 Rows.setsynSignsRow.domain false Rows.setsynSignsRow.laid ((laidWorld os).forCall (fun _ _ => 0) ⟨#[], #[.slice none 0 0, .slice none 0 0], []⟩).memory #[.slice none 0 0, .slice none 0 0] := by
  have hw : (DataW.whole enc Tryz.prog ((laidWorld os).forCall (fun _ _ => 0) ⟨#[], #[.slice none 0 0, .slice none 0 0], []⟩).memory Tryz.f5.params.toList Rows.setsynSignsSpec.vars false #[.slice none 0 0, .slice none 0 0].toList 8).map (fun x => (x.1, x.2.1)) =
      some ([.nil, .nil], []) := by kernel_rfl
  obtain ⟨⟨x1, x2, x3⟩, hx, hx1⟩ := Option.map_eq_some_iff.1 hw
  simp only [Prod.mk.injEq] at hx1
  obtain ⟨rfl, rfl⟩ := hx1
  exact OpenSpec.preRow_of_cond 8 hx (by kernel_rfl) (fun k hk => by cases hk) (by kernel_rfl) (laid_met os _)

set_option maxRecDepth 100000 in
set_option maxHeartbeats 2000000 in
theorem setsyn_signs_lifted (os : Os) (started : os.Started) (H : Type) (enc : TypeId × Value → H) (F : Stop.Interp) :
    ReturnsInHanded {} Tryz.checked os 5 .any ((OpenSpec.ofChange Rows.setsynSignsSpec).preRow enc Tryz.prog Tryz.f5 Rows.setsynSignsRow.domain false Rows.setsynSignsRow.laid) (((OpenSpec.ofChange Rows.setsynSignsSpec).at F).post enc Tryz.prog Tryz.f5 false true false false) := by
  refine returnsInHanded_of_row (C := Tryz.checked) (s := (OpenSpec.ofChange Rows.setsynSignsSpec)) own_knob started (by kernel_rfl) Tryz.func5
    (witness_row_atRef (enc := enc) (C := Tryz.checked) false (laidWorld os) #[.slice none 0 0, .slice none 0 0] rfl (by kernel_rfl) (by kernel_rfl) (by kernel_rfl) (setsyn_signs_reads os enc)) ?_
  intro W base args ds gs before hval hW _ hcond _ hL _ _
  have hW' := hW
  obtain ⟨p, q, hA0, hV, rfl, hfz, hnd⟩ := hW
  have hA : DataW.TrodAll enc Tryz.prog W 0 (fun _ => true) true Tryz.f5.params.toList args.toList ds p := hA0
  have hv2 : ∀ (j : Nat) t v, Tryz.f5.params[j]? = some t → args[j]? = some v → Value.okWide Tryz.prog W .any base t v := hval
  rw [Tryz.params5] at hA hv2
  obtain ⟨v0, v1, d0, d1, p0, p1, rfl, rfl, rfl, h0, h1⟩ := trodAll_two hA
  obtain ⟨rfl, rfl⟩ := trodVars_none hV
  obtain ⟨A0, n0, c0, rfl⟩ := okWide_slice Tryz.underlying22 (hv2 0 _ v0 rfl rfl)
  obtain ⟨f0, h0⟩ := h0
  obtain ⟨hn0, hm0, ⟨l0, hl0⟩, hx0⟩ := open_spans (by simpa [Value.cells] using h0)
  have hb0 := bulk_slice hx0
  dsimp only at hb0
  obtain ⟨A1, n1, c1, rfl⟩ := okWide_slice Tryz.underlying22 (hv2 1 _ v1 rfl rfl)
  obtain ⟨f1, h1⟩ := h1
  obtain ⟨hn1, hm1, ⟨l1, hl1⟩, hx1⟩ := open_spans (by simpa [Value.cells] using h1)
  have hb1 := bulk_slice hx1
  dsimp only at hb1
  have hT := cell_of_laid (show laidMetH Tryz.prog errLaid W from hL)
  refine (setsyn_signs A0 A1 n0 c0 n1 c1 l0 l1 W (by unfold maxLen at hm0; omega) (by unfold maxLen at hm1; omega) hn0 hn1 hl0 hl1 hT (lt_of_cell (p := ⟨5, 15, none⟩) hT)).mono fun e W' ⟨he, hb⟩ => ⟨_, he, ?_⟩
  exact law_post Tryz.underlying4 rfl rfl laid_out (by kernel_rfl) hW' rfl hb

theorem setsyn_signs_said : Rows.SetsynSignsSaid :=
  OpenClaim.holds_of_cond 5 Tryz.f5 rfl rfl rfl rfl rfl rfl rfl ⟨rfl, rfl, rfl, rfl, rfl⟩ rfl rfl rfl rfl rfl (by kernel_rfl) Tryz.func5 (by kernel_rfl)
    (of_decide_eq_true (by kernel_rfl)) (by unfold Func.isWrapper; first | (rw [if_pos (by decide +kernel)]; kernel_rfl) | (rw [if_neg (by decide +kernel)]; exact ⟨rfl, rfl⟩))
    (fun os started H enc _ F => by rw [OpenClaim.pre_eq_preRow]; exact setsyn_signs_lifted os started H enc F)

theorem setsyn_signs_plain (f : FuncId) (fn : Func) (hf : Tryz.pinned.checked.prog.funcNamed "scriptshift/scriptlaw3.SetsynSigns" = some f) (hfn : Tryz.pinned.checked.prog.funcs[f]? = some fn) :
    true = Tryz.pinned.checked.prog.looks [] ∧ ∀ (j : Nat) t, fn.params[j]? = some t → Tryz.pinned.checked.prog.wantsStandIn t = false := by
  obtain rfl : f = 5 := Option.some.inj ((show Tryz.prog.funcNamed "scriptshift/scriptlaw3.SetsynSigns" = some 5 by kernel_rfl).symm.trans hf) |>.symm
  obtain rfl : fn = Tryz.f5 := (Option.some.inj (Tryz.func5.symm.trans hfn)).symm
  refine ⟨by kernel_rfl, fun j t ht => ?_⟩
  have h : (Tryz.f5.params.toList.all fun t => !Tryz.prog.wantsStandIn t) = true := by kernel_rfl
  have h2 := List.all_eq_true.1 h t (by simpa using Array.mem_of_getElem? ht)
  have h3 : Tryz.prog.wantsStandIn t = false := by simpa using h2
  exact h3

/-- THE CARD. -/
theorem setsyn_signs_card : Rows.SetsynSignsCardSaid :=
  Claim7.holds_tied_plain_at .later [] _ _ _ _ setsyn_signs_said (fun _ h => by cases h) (by kernel_rfl) (fun _ h => by cases h) setsynSigns_row_tie rfl ⟨rfl, rfl⟩ (by kernel_rfl) rfl setsyn_signs_plain (by kernel_rfl)

end Go.Proofs.YthnhbcohfoodlaaGreatDoor
