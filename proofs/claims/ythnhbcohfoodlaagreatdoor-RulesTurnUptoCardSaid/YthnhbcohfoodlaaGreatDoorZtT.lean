/- RulesTurnFProof -/
import Derived.Test.YthnhbcohfoodlaaGreatDoorZt49
import Derived.Test.YthnhbcohfoodlaaGreatDoorZt14
import Derived.Test.YthnhbcohfoodlaaGreatDoorZt4
import Derived.Test.YthnhbcohfoodlaaGreatDoorZt0
import Derived.Test.YthnhbcohfoodlaaGreatDoorZt28
import Derived.Test.YthnhbcohfoodlaaGreatDoorCards
import Derived.Test.YthnhbcohfoodlaaGreatDoorTie
namespace Go.Proofs.YthnhbcohfoodlaaGreatDoor
open Go.RowKit Go.ChangeShapes Go.WideShapes Go.ChangeAt Go.Shelf
open Go.ChangeMaps (open_string shut_string)
theorem lt_of_cell {w : World} {p : Addr} {v : Value} (h : w.cell? p = some v) : p.block < w.heap.size := by
 rcases Nat.lt_or_ge p.block w.heap.size with h' | h'
 ·exact h'
 ·simp [World.cell?, Array.getElem?_eq_none h'] at h
theorem rulesturn_reads (os : Os) {H : Type} (enc : TypeId × Value → H) :
 (Rows.OpenSpec.upto Rows.rulesTurnSpec).preRow enc Tryz.prog Tryz.f8 Rows.rulesTurnUptoRow.domain false Rows.rulesTurnUptoRow.laid ((laidWorld os).forCall (fun _ _ => 0) ⟨#[], #[.slice none 0 0, .string ⟨#[]⟩], []⟩).memory #[.slice none 0 0, .string ⟨#[]⟩] := by
 have hw : (DataW.whole enc Tryz.prog ((laidWorld os).forCall (fun _ _ => 0) ⟨#[], #[.slice none 0 0, .string ⟨#[]⟩], []⟩).memory Tryz.f8.params.toList Rows.rulesTurnSpec.vars false #[.slice none 0 0, .string ⟨#[]⟩].toList 8).map (fun x => (x.1, x.2.1)) =
  some ([.nil, .lit (.string [])], []) := by kernel_rfl
 obtain ⟨⟨x1, x2, x3⟩, hx, hx1⟩ := Option.map_eq_some_iff.1 hw
 simp only [Prod.mk.injEq] at hx1
 obtain ⟨rfl, rfl⟩ := hx1
 exact OpenSpec.preRow_of_cond 8 hx (by kernel_rfl) (fun k hk => by cases hk; kernel_rfl) (by kernel_rfl) (laid_met os _)
set_option maxRecDepth 100000 in
set_option maxHeartbeats 2000000 in
theorem rulesturn_lifted (os : Os) (started : os.Started) (H : Type) (enc : TypeId × Value → H) (F : Stop.Interp) :
 ReturnsInHanded {} Tryz.checked os 8 .any ((Rows.OpenSpec.upto Rows.rulesTurnSpec).preRow enc Tryz.prog Tryz.f8 Rows.rulesTurnUptoRow.domain false Rows.rulesTurnUptoRow.laid) (((Rows.OpenSpec.upto Rows.rulesTurnSpec).at F).post enc Tryz.prog Tryz.f8 false true false false) := by
 refine returnsInHanded_of_row (C := Tryz.checked) (s := (Rows.OpenSpec.upto Rows.rulesTurnSpec)) own_knob started (by kernel_rfl) Tryz.func8
  (witness_row_atRef (enc := enc) (C := Tryz.checked) false (laidWorld os) #[.slice none 0 0, .string ⟨#[]⟩] rfl (by kernel_rfl) (by kernel_rfl) (by kernel_rfl) (rulesturn_reads os enc)) ?_
 intro W base args ds gs before hval hW _ hcond _ hL _ _
 have hk := hcond _ rfl
 have hW' := hW
 obtain ⟨p, q, hA0, hV, rfl, hfz, hnd⟩ := hW
 have hA : DataW.TrodAll enc Tryz.prog W 0 (fun _ => true) true Tryz.f8.params.toList args.toList ds p := hA0
 have hv2 : ∀ (j : Nat) t v, Tryz.f8.params[j]? = some t → args[j]? = some v → Value.okWide Tryz.prog W .any base t v := hval
 rw [Tryz.params8] at hA hv2
 obtain ⟨v0, v1, d0, d1, p0, p1, rfl, rfl, rfl, h0, h1⟩ := trodAll_two hA
 obtain ⟨rfl, rfl⟩ := trodVars_none hV
 obtain ⟨A0, n0, c0, rfl⟩ := okWide_slice Tryz.underlying41 (hv2 0 _ v0 rfl rfl)
 obtain ⟨f0, h0⟩ := h0
 obtain ⟨hn0, hm0, ⟨l0, hl0⟩, hx0⟩ := open_parts (by simpa [Value.cells] using h0)
 have hb0 := bulk_slice hx0
 dsimp only at hb0
 obtain ⟨s1, rfl, rfl, rfl, hs1⟩ := open_string Tryz.underlying9 (hv2 1 _ v1 rfl rfl) h1
 have hb1 := bulk_string (H := H) s1
 have hbk := bulk_bound hk
 simp only [List.append_nil, Rows.uptoBulkAll] at hbk
 have hT := cell_of_laid (show laidMetH Tryz.prog sevenLaid W from hL)
 refine (rules_turn_law A0 n0 c0 l0 s1 W (Nat.le_trans hn0 hm0) (by omega) hl0 hT (lt_of_cell (p := ⟨5, 15, none⟩) hT)).mono fun e W' ⟨he, hb⟩ => ⟨_, he, ?_⟩
 exact law_post Tryz.underlying4 rfl rfl laid_out (by kernel_rfl) hW' rfl hb
theorem rulesturn_said : Rows.RulesTurnUptoSaid :=
 OpenClaim.holds_of_cond 8 Tryz.f8 rfl rfl rfl rfl rfl rfl rfl ⟨rfl, rfl, rfl, rfl, rfl⟩ rfl rfl rfl rfl rfl (by kernel_rfl) Tryz.func8 (by kernel_rfl)
  (of_decide_eq_true (by kernel_rfl)) (by unfold Func.isWrapper; first | (rw [if_pos (by decide +kernel)]; kernel_rfl) | (rw [if_neg (by decide +kernel)]; exact ⟨rfl, rfl⟩))
  (fun os started H enc _ F => by rw [OpenClaim.pre_eq_preRow]; exact rulesturn_lifted os started H enc F)
theorem rulesturn_plain (f : FuncId) (fn : Func) (hf : Tryz.pinned.checked.prog.funcNamed "scriptshift/scriptlaw5.RulesTurn" = some f) (hfn : Tryz.pinned.checked.prog.funcs[f]? = some fn) :
 true = Tryz.pinned.checked.prog.looks [] ∧ ∀ (j : Nat) t, fn.params[j]? = some t → Tryz.pinned.checked.prog.wantsStandIn t = false := by
 obtain rfl : f = 8 := Option.some.inj ((show Tryz.prog.funcNamed "scriptshift/scriptlaw5.RulesTurn" = some 8 by kernel_rfl).symm.trans hf) |>.symm
 obtain rfl : fn = Tryz.f8 := (Option.some.inj (Tryz.func8.symm.trans hfn)).symm
 refine ⟨by kernel_rfl, fun j t ht => ?_⟩
 have h : (Tryz.f8.params.toList.all fun t => !Tryz.prog.wantsStandIn t) = true := by kernel_rfl
 have h2 := List.all_eq_true.1 h t (by simpa using Array.mem_of_getElem? ht)
 have h3 : Tryz.prog.wantsStandIn t = false := by simpa using h2
 exact h3
theorem rulesturn_card : Rows.RulesTurnUptoCardSaid :=
 Claim7.holds_tied_plain_at .later [] _ _ _ _ rulesturn_said (fun _ h => by cases h) (by kernel_rfl) (fun _ h => by cases h) rulesTurnUpto_row_tie rfl ⟨rfl, rfl⟩ (by kernel_rfl) rfl rulesturn_plain (by kernel_rfl)
end Go.Proofs.YthnhbcohfoodlaaGreatDoor
