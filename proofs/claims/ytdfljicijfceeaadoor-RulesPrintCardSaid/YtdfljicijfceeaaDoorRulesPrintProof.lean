/- RulesPrint: Wrong and Print tell what is wrong with any parts, and how they are written: the law returns true and leaves what it was handed as it was. Go's own tables of strconv, math/bits and utf8 are as their text lays them (the card ties them). -/
import Derived.Test.YtdfljicijfceeaaDoorRulesPrint
import Derived.Test.YtdfljicijfceeaaDoorOpenParts
import Derived.Test.YtdfljicijfceeaaDoorOpen
import Derived.Test.YtdfljicijfceeaaDoorFiveLaid
import Derived.Test.YtdfljicijfceeaaDoorCards
import Derived.Test.YtdfljicijfceeaaDoorTie
namespace Go.Proofs.YtdfljicijfceeaaDoor
open Go.RowKit Go.ChangeShapes Go.WideShapes Go.ChangeAt Go.Shelf
open Go.ChangeMaps (open_string shut_string)

theorem rules_print_reads (os : Os) {H : Type} (enc : TypeId × Value → H) :
    (OpenSpec.ofChange Rows.rulesPrintSpec).preRow enc Tryd.prog Tryd.f3 Rows.rulesPrintRow.domain false Rows.rulesPrintRow.laid ((laidWorld os).forCall (fun _ _ => 0) ⟨#[], #[.slice none 0 0], []⟩).memory #[.slice none 0 0] := by
  have hw : (DataW.whole enc Tryd.prog ((laidWorld os).forCall (fun _ _ => 0) ⟨#[], #[.slice none 0 0], []⟩).memory Tryd.f3.params.toList Rows.rulesPrintSpec.vars false #[.slice none 0 0].toList 8).map (fun x => (x.1, x.2.1)) =
      some ([.nil], []) := by kernel_rfl
  obtain ⟨⟨x1, x2, x3⟩, hx, hx1⟩ := Option.map_eq_some_iff.1 hw
  simp only [Prod.mk.injEq] at hx1
  obtain ⟨rfl, rfl⟩ := hx1
  exact OpenSpec.preRow_of_cond 8 hx (by kernel_rfl) (fun k hk => by cases hk) (by kernel_rfl) (laid_met os _)

set_option maxRecDepth 100000 in
set_option maxHeartbeats 2000000 in
theorem rules_print_lifted (os : Os) (started : os.Started) (H : Type) (enc : TypeId × Value → H) (F : Stop.Interp) :
    ReturnsInHanded {} Tryd.checked os 3 .any ((OpenSpec.ofChange Rows.rulesPrintSpec).preRow enc Tryd.prog Tryd.f3 Rows.rulesPrintRow.domain false Rows.rulesPrintRow.laid) (((OpenSpec.ofChange Rows.rulesPrintSpec).at F).post enc Tryd.prog Tryd.f3 false true false false) := by
  refine returnsInHanded_of_row (C := Tryd.checked) (s := (OpenSpec.ofChange Rows.rulesPrintSpec)) own_knob started (by kernel_rfl) Tryd.func3
    (witness_row_atRef (enc := enc) (C := Tryd.checked) false (laidWorld os) #[.slice none 0 0] rfl (by kernel_rfl) (by kernel_rfl) (by kernel_rfl) (rules_print_reads os enc)) ?_
  intro W base args ds gs before hval hW _ hcond _ hL _ _
  have hW' := hW
  obtain ⟨p, q, hA0, hV, rfl, hfz, hnd⟩ := hW
  have hA : DataW.TrodAll enc Tryd.prog W 0 (fun _ => true) true Tryd.f3.params.toList args.toList ds p := hA0
  have hv2 : ∀ (j : Nat) t v, Tryd.f3.params[j]? = some t → args[j]? = some v → Value.okWide Tryd.prog W .any base t v := hval
  rw [Tryd.params3] at hA hv2
  obtain ⟨v0, d0, rfl, rfl, h0⟩ := trodAll_one hA
  obtain ⟨rfl, rfl⟩ := trodVars_none hV
  obtain ⟨A0, n0, c0, rfl⟩ := okWide_slice Tryd.underlying22 (hv2 0 _ v0 rfl rfl)
  obtain ⟨f0, h0⟩ := h0
  obtain ⟨hn0, hm0, ⟨l0, hl0⟩, hx0⟩ := open_parts (by simpa [Value.cells] using h0)
  have hT := cell_of_laid (show laidMetH Tryd.prog fiveLaid W from hL)
  refine (rules_print A0 n0 c0 l0 W (Nat.le_trans hn0 hm0) hl0 hT).mono fun e W' ⟨he, hb⟩ => ⟨_, he, ?_⟩
  exact law_post Tryd.underlying4 rfl rfl laid_out (by kernel_rfl) hW' rfl hb

theorem rules_print_said : Rows.RulesPrintSaid :=
  OpenClaim.holds_of_cond 3 Tryd.f3 rfl rfl rfl rfl rfl rfl rfl ⟨rfl, rfl, rfl, rfl, rfl⟩ rfl rfl rfl rfl rfl (by kernel_rfl) Tryd.func3 (by kernel_rfl)
    (of_decide_eq_true (by kernel_rfl)) (by unfold Func.isWrapper; first | (rw [if_pos (by decide +kernel)]; kernel_rfl) | (rw [if_neg (by decide +kernel)]; exact ⟨rfl, rfl⟩))
    (fun os started H enc _ F => by rw [OpenClaim.pre_eq_preRow]; exact rules_print_lifted os started H enc F)

theorem rules_print_plain (f : FuncId) (fn : Func) (hf : Tryd.pinned.checked.prog.funcNamed "scriptshift/scriptlaw5.RulesPrint" = some f) (hfn : Tryd.pinned.checked.prog.funcs[f]? = some fn) :
    false = Tryd.pinned.checked.prog.looks [] ∧ ∀ (j : Nat) t, fn.params[j]? = some t → Tryd.pinned.checked.prog.wantsStandIn t = false := by
  obtain rfl : f = 3 := Option.some.inj ((show Tryd.prog.funcNamed "scriptshift/scriptlaw5.RulesPrint" = some 3 by kernel_rfl).symm.trans hf) |>.symm
  obtain rfl : fn = Tryd.f3 := (Option.some.inj (Tryd.func3.symm.trans hfn)).symm
  refine ⟨by kernel_rfl, fun j t ht => ?_⟩
  have h : (Tryd.f3.params.toList.all fun t => !Tryd.prog.wantsStandIn t) = true := by kernel_rfl
  have h2 := List.all_eq_true.1 h t (by simpa using Array.mem_of_getElem? ht)
  have h3 : Tryd.prog.wantsStandIn t = false := by simpa using h2
  exact h3

/-- THE CARD. -/
theorem rules_print_card : Rows.RulesPrintCardSaid :=
  Claim7.holds_tied_plain_at .later [] _ _ _ _ rules_print_said (fun _ h => by cases h) (by kernel_rfl) (fun _ h => by cases h) rulesPrint_row_tie rfl ⟨rfl, rfl⟩ (by kernel_rfl) rfl rules_print_plain (by kernel_rfl)

end Go.Proofs.YtdfljicijfceeaaDoor
