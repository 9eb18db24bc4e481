/- RulesRead: the reader of files of rules and the document's answer tell the same parts and the same fault of any text, and they name the same texts. Condition: what the law reads is of bulk at most 1048576 (the statement of the second form); Go's own variables are as their text lays them. -/
import Derived.Test.YthnhbcohfoodlaaGreatDoorZq49
import Derived.Test.YthnhbcohfoodlaaGreatDoorZq4
import Derived.Test.YthnhbcohfoodlaaGreatDoorZq0
import Derived.Test.YthnhbcohfoodlaaGreatDoorZq20
import Derived.Test.YthnhbcohfoodlaaGreatDoorCards
import Derived.Test.YthnhbcohfoodlaaGreatDoorTie
set_option maxHeartbeats 2000000
set_option maxRecDepth 100000
namespace Go.Proofs.YthnhbcohfoodlaaGreatDoor
open Go.RowKit Go.ChangeShapes Go.WideShapes Go.ChangeAt Go.Shelf
open Go.ChangeMaps (open_string shut_string)
theorem qz (os : Os) {H : Type} (enc : TypeId × Value → H) :
    (Rows.OpenSpec.upto Rows.rulesReadSpec).preRow enc Tryz.prog Tryz.f6 Rows.rulesReadUptoRow.domain false Rows.rulesReadUptoRow.laid ((l9 os).forCall (fun _ _ => 0) ⟨#[], #[.string ⟨#[]⟩], []⟩).memory #[.string ⟨#[]⟩] := by
 have hw : (DataW.whole enc Tryz.prog ((l9 os).forCall (fun _ _ => 0) ⟨#[], #[.string ⟨#[]⟩], []⟩).memory Tryz.f6.params.toList Rows.rulesReadSpec.vars false #[.string ⟨#[]⟩].toList 8).map (fun x => (x.1, x.2.1)) =
     some ([.lit (.string [])], []) := by kernel_rfl
 obtain ⟨⟨x1, x2, x3⟩, hx, hx1⟩ := Option.map_eq_some_iff.1 hw;simp only [Prod.mk.injEq] at hx1;obtain ⟨rfl, rfl⟩ := hx1;exact OpenSpec.preRow_of_cond 8 hx (by kernel_rfl) (fun k hk => by cases hk; kernel_rfl) (by kernel_rfl) (Et os _)
theorem oR (os : Os) (started : os.Started) (H : Type) (enc : TypeId × Value → H) (F : Stop.Interp) :
    ReturnsInHanded {} Tryz.checked os 6 .any ((Rows.OpenSpec.upto Rows.rulesReadSpec).preRow enc Tryz.prog Tryz.f6 Rows.rulesReadUptoRow.domain false Rows.rulesReadUptoRow.laid) (((Rows.OpenSpec.upto Rows.rulesReadSpec).at F).post enc Tryz.prog Tryz.f6 false true false false) := by
 refine returnsInHanded_of_row (C := Tryz.checked) (s := (Rows.OpenSpec.upto Rows.rulesReadSpec)) Du started (by kernel_rfl) Tryz.func6
   (witness_row_atRef (enc := enc) (C := Tryz.checked) false (l9 os) #[.string ⟨#[]⟩] rfl (by kernel_rfl) (by kernel_rfl) (by kernel_rfl) (qz os enc)) ?_
 intro W base args ds gs before hval hW _ Lp _ hL _ _;have hk := Lp _ rfl;have Up := hW;obtain ⟨p, q, Tl, hV, rfl, hfz, hnd⟩ := hW;have hA : DataW.TrodAll enc Tryz.prog W 0 (fun _ => true) true Tryz.f6.params.toList args.toList ds p := Tl;have Rc : ∀ (j : Nat) t v, Tryz.f6.params[j]? = some t → args[j]? = some v → Value.okWide Tryz.prog W .any base t v := hval;rw [Tryz.params6] at hA Rc;obtain ⟨v0, d0, rfl, rfl, h0⟩ := trodAll_one hA;obtain ⟨rfl, rfl⟩ := trodVars_none hV;obtain ⟨s0, rfl, rfl, rfl, hs0⟩ := open_string Tryz.underlying9 (Rc 0 _ v0 rfl rfl) h0;have hb0 := xg (H := H) s0;have hbk := zv hk;simp only [List.append_nil, Rows.uptoBulkAll] at hbk;refine (ry s0 W (by omega)).mono fun e W' ⟨he, hb⟩ => ⟨_, he, ?_⟩;exact DE Tryz.underlying4 rfl rfl EP (by kernel_rfl) Up rfl hb
theorem sP : Rows.RulesReadUptoSaid :=
  OpenClaim.holds_of_cond 6 Tryz.f6 rfl rfl rfl rfl rfl rfl rfl ⟨rfl, rfl, rfl, rfl, rfl⟩ rfl rfl rfl rfl rfl (by kernel_rfl) Tryz.func6 (by kernel_rfl)
    (of_decide_eq_true (by kernel_rfl)) (by unfold Func.isWrapper; first | (rw [if_pos (by decide +kernel)]; kernel_rfl) | (rw [if_neg (by decide +kernel)]; exact ⟨rfl, rfl⟩))
    (fun os started H enc _ F => by rw [OpenClaim.pre_eq_preRow]; exact oR os started H enc F)
theorem qu (f : FuncId) (fn : Func) (hf : Tryz.pinned.checked.prog.funcNamed "scriptshift/scriptlaw5.RulesRead" = some f) (hfn : Tryz.pinned.checked.prog.funcs[f]? = some fn) :
    true = Tryz.pinned.checked.prog.looks [] ∧ ∀ (j : Nat) t, fn.params[j]? = some t → Tryz.pinned.checked.prog.wantsStandIn t = false := by
 obtain rfl : f = 6 := Option.some.inj ((show Tryz.prog.funcNamed "scriptshift/scriptlaw5.RulesRead" = some 6 by kernel_rfl).symm.trans hf) |>.symm;obtain rfl : fn = Tryz.f6 := (Option.some.inj (Tryz.func6.symm.trans hfn)).symm;refine ⟨by kernel_rfl, fun j t ht => ?_⟩;have h : (Tryz.f6.params.toList.all fun t => !Tryz.prog.wantsStandIn t) = true := (by kernel_rfl);have h2 := List.all_eq_true.1 h t (by simpa using Array.mem_of_getElem? ht);have h3 : Tryz.prog.wantsStandIn t = false := (by simpa using h2);exact h3
theorem rulesread_card : Rows.RulesReadUptoCardSaid :=
  Claim7.holds_tied_plain_at .later [] _ _ _ _ sP (fun _ h => by cases h) (by kernel_rfl) (fun _ h => by cases h) rulesReadUpto_row_tie rfl ⟨rfl, rfl⟩ (by kernel_rfl) rfl qu (by kernel_rfl)
end Go.Proofs.YthnhbcohfoodlaaGreatDoor
