/- SetsynTurns: WHAT IS WRITTEN IS READ: a set comes back; what is read is right, and read again from what is written of it: for any spans and any text the law returns true and leaves them as they were. Condition: what the law reads is of bulk at most 1048576 (the statement of the second form); Go's own variables are as their text lays them (the card ties them). -/
import Derived.Test.YthnhbcohfoodlaaGreatDoorTurnsWalk
import Derived.Test.YthnhbcohfoodlaaGreatDoorOpenSpans
import Derived.Test.YthnhbcohfoodlaaGreatDoorOpen
import Derived.Test.YthnhbcohfoodlaaGreatDoorBulk
import Derived.Test.YthnhbcohfoodlaaGreatDoorErrLaid
import Derived.Test.YthnhbcohfoodlaaGreatDoorCards
import Derived.Test.YthnhbcohfoodlaaGreatDoorTie
namespace Go.Proofs.YthnhbcohfoodlaaGreatDoor
open Go.RowKit Go.ChangeShapes Go.WideShapes Go.ChangeAt Go.Shelf
open Go.ChangeMaps (open_string shut_string)

theorem setsyn_turns_reads (os : Os) {H : Type} (enc : TypeId × Value → H) :
    (Rows.OpenSpec.upto Rows.setsynTurnsSpec).preRow enc Tryz.prog Tryz.f4 Rows.setsynTurnsUptoRow.domain false Rows.setsynTurnsUptoRow.laid ((laidWorld os).forCall (fun _ _ => 0) ⟨#[], #[.slice none 0 0, .string ⟨#[]⟩], []⟩).memory #[.slice none 0 0, .string ⟨#[]⟩] := by
  have hw : (DataW.whole enc Tryz.prog ((laidWorld os).forCall (fun _ _ => 0) ⟨#[], #[.slice none 0 0, .string ⟨#[]⟩], []⟩).memory Tryz.f4.params.toList Rows.setsynTurnsSpec.vars false #[.slice none 0 0, .string ⟨#[]⟩].toList 8).map (fun x => (x.1, x.2.1)) =
      some ([.nil, .lit (.string [])], []) := by kernel_rfl
  obtain ⟨⟨x1, x2, x3⟩, hx, hx1⟩ := Option.map_eq_some_iff.1 hw
  simp only [Prod.mk.injEq] at hx1
  obtain ⟨rfl, rfl⟩ := hx1
  exact OpenSpec.preRow_of_cond 8 hx (by kernel_rfl) (fun k hk => by cases hk; kernel_rfl) (by kernel_rfl) (laid_met os _)

set_option maxRecDepth 100000 in
set_option maxHeartbeats 2000000 in
theorem setsyn_turns_lifted (os : Os) (started : os.Started) (H : Type) (enc : TypeId × Value → H) (F : Stop.Interp) :
    ReturnsInHanded {} Tryz.checked os 4 .any ((Rows.OpenSpec.upto Rows.setsynTurnsSpec).preRow enc Tryz.prog Tryz.f4 Rows.setsynTurnsUptoRow.domain false Rows.setsynTurnsUptoRow.laid) (((Rows.OpenSpec.upto Rows.setsynTurnsSpec).at F).post enc Tryz.prog Tryz.f4 false true false false) := by
  refine returnsInHanded_of_row (C := Tryz.checked) (s := (Rows.OpenSpec.upto Rows.setsynTurnsSpec)) own_knob started (by kernel_rfl) Tryz.func4
    (witness_row_atRef (enc := enc) (C := Tryz.checked) false (laidWorld os) #[.slice none 0 0, .string ⟨#[]⟩] rfl (by kernel_rfl) (by kernel_rfl) (by kernel_rfl) (setsyn_turns_reads os enc)) ?_
  intro W base args ds gs before hval hW _ hcond _ hL _ _
  have hk := hcond _ rfl
  have hW' := hW
  obtain ⟨p, q, hA0, hV, rfl, hfz, hnd⟩ := hW
  have hA : DataW.TrodAll enc Tryz.prog W 0 (fun _ => true) true Tryz.f4.params.toList args.toList ds p := hA0
  have hv2 : ∀ (j : Nat) t v, Tryz.f4.params[j]? = some t → args[j]? = some v → Value.okWide Tryz.prog W .any base t v := hval
  rw [Tryz.params4] at hA hv2
  obtain ⟨v0, v1, d0, d1, p0, p1, rfl, rfl, rfl, h0, h1⟩ := trodAll_two hA
  obtain ⟨rfl, rfl⟩ := trodVars_none hV
  obtain ⟨A0, n0, c0, rfl⟩ := okWide_slice Tryz.underlying22 (hv2 0 _ v0 rfl rfl)
  obtain ⟨f0, h0⟩ := h0
  obtain ⟨hn0, hm0, ⟨l0, hl0⟩, hx0⟩ := open_spans (by simpa [Value.cells] using h0)
  have hb0 := bulk_slice hx0
  dsimp only at hb0
  obtain ⟨s1, rfl, rfl, rfl, hs1⟩ := open_string Tryz.underlying9 (hv2 1 _ v1 rfl rfl) h1
  have hb1 := bulk_string (H := H) s1
  have hbk := bulk_bound hk
  simp only [List.append_nil, Rows.uptoBulkAll] at hbk
  have hT := cell_of_laid (show laidMetH Tryz.prog errLaid W from hL)
  refine (setsyn_turns A0 n0 c0 l0 s1 W (by unfold maxLen at hm0; omega) (by omega) hl0 hT (lt_of_cell (p := ⟨5, 15, none⟩) hT)).mono fun e W' ⟨he, hb⟩ => ⟨_, he, ?_⟩
  exact law_post Tryz.underlying4 rfl rfl laid_out (by kernel_rfl) hW' rfl hb

theorem setsyn_turns_said : Rows.SetsynTurnsUptoSaid :=
  OpenClaim.holds_of_cond 4 Tryz.f4 rfl rfl rfl rfl rfl rfl rfl ⟨rfl, rfl, rfl, rfl, rfl⟩ rfl rfl rfl rfl rfl (by kernel_rfl) Tryz.func4 (by kernel_rfl)
    (of_decide_eq_true (by kernel_rfl)) (by unfold Func.isWrapper; first | (rw [if_pos (by decide +kernel)]; kernel_rfl) | (rw [if_neg (by decide +kernel)]; exact ⟨rfl, rfl⟩))
    (fun os started H enc _ F => by rw [OpenClaim.pre_eq_preRow]; exact setsyn_turns_lifted os started H enc F)

theorem setsyn_turns_plain (f : FuncId) (fn : Func) (hf : Tryz.pinned.checked.prog.funcNamed "scriptshift/scriptlaw3.SetsynTurns" = some f) (hfn : Tryz.pinned.checked.prog.funcs[f]? = some fn) :
    true = Tryz.pinned.checked.prog.looks [] ∧ ∀ (j : Nat) t, fn.params[j]? = some t → Tryz.pinned.checked.prog.wantsStandIn t = false := by
  obtain rfl : f = 4 := Option.some.inj ((show Tryz.prog.funcNamed "scriptshift/scriptlaw3.SetsynTurns" = some 4 by kernel_rfl).symm.trans hf) |>.symm
  obtain rfl : fn = Tryz.f4 := (Option.some.inj (Tryz.func4.symm.trans hfn)).symm
  refine ⟨by kernel_rfl, fun j t ht => ?_⟩
  have h : (Tryz.f4.params.toList.all fun t => !Tryz.prog.wantsStandIn t) = true := by kernel_rfl
  have h2 := List.all_eq_true.1 h t (by simpa using Array.mem_of_getElem? ht)
  have h3 : Tryz.prog.wantsStandIn t = false := by simpa using h2
  exact h3

/-- THE CARD. -/
theorem setsyn_turns_card : Rows.SetsynTurnsUptoCardSaid :=
  Claim7.holds_tied_plain_at .later [] _ _ _ _ setsyn_turns_said (fun _ h => by cases h) (by kernel_rfl) (fun _ h => by cases h) setsynTurnsUpto_row_tie rfl ⟨rfl, rfl⟩ (by kernel_rfl) rfl setsyn_turns_plain (by kernel_rfl)

end Go.Proofs.YthnhbcohfoodlaaGreatDoor
