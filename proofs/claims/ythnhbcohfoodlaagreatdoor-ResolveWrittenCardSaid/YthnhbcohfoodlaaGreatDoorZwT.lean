/- ResolveWritten: WHAT IS WRITTEN IS THE SAME SCRIPT: of any parts, where they are written in a text that is short enough to be read, the parts that are read of it have the same script, and the same fault, as the parts themselves with what their kinds have; the law returns true and leaves them as they were. No condition on size; Go's own variables are as their text lays them (the card ties them). -/
import Derived.Test.YthnhbcohfoodlaaGreatDoorZw49
import Derived.Test.YthnhbcohfoodlaaGreatDoorZw9
import Derived.Test.YthnhbcohfoodlaaGreatDoorZw3
import Derived.Test.YthnhbcohfoodlaaGreatDoorZw26
import Derived.Test.YthnhbcohfoodlaaGreatDoorCards
import Derived.Test.YthnhbcohfoodlaaGreatDoorTie
set_option maxHeartbeats 2000000
set_option maxRecDepth 100000
namespace Go.Proofs.YthnhbcohfoodlaaGreatDoor
open Go.RowKit Go.ChangeShapes Go.WideShapes Go.ChangeAt Go.Shelf
open Go.ChangeMaps (open_string shut_string)
theorem CB {w : World} {p : Addr} {v : Value} (h : w.cell? p = some v) : p.block < w.heap.size := by
 rcases Nat.lt_or_ge p.block w.heap.size with h' | h';exact h';simp [World.cell?, Array.getElem?_eq_none h'] at h
theorem mZ (os : Os) {H : Type} (enc : TypeId × Value → H) :
    (OpenSpec.ofChange Rows.resolveWrittenSpec).preRow enc Tryz.prog Tryz.f9 Rows.resolveWrittenRow.domain false Rows.resolveWrittenRow.laid ((nk os).forCall (fun _ _ => 0) ⟨#[], #[.slice none 0 0], []⟩).memory #[.slice none 0 0] := by
 have hw : (DataW.whole enc Tryz.prog ((nk os).forCall (fun _ _ => 0) ⟨#[], #[.slice none 0 0], []⟩).memory Tryz.f9.params.toList Rows.resolveWrittenSpec.vars false #[.slice none 0 0].toList 8).map (fun x => (x.1, x.2.1)) =
     some ([.nil], []) := by kernel_rfl
 obtain ⟨⟨x1, x2, x3⟩, hx, hx1⟩ := Option.map_eq_some_iff.1 hw;simp only [Prod.mk.injEq] at hx1;obtain ⟨rfl, rfl⟩ := hx1;exact OpenSpec.preRow_of_cond 8 hx (by kernel_rfl) (fun k hk => by cases hk) (by kernel_rfl) (Hq os _)
theorem mG (os : Os) (started : os.Started) (H : Type) (enc : TypeId × Value → H) (F : Stop.Interp) :
    ReturnsInHanded {} Tryz.checked os 9 .any ((OpenSpec.ofChange Rows.resolveWrittenSpec).preRow enc Tryz.prog Tryz.f9 Rows.resolveWrittenRow.domain false Rows.resolveWrittenRow.laid) (((OpenSpec.ofChange Rows.resolveWrittenSpec).at F).post enc Tryz.prog Tryz.f9 false true false false) := by
 refine returnsInHanded_of_row (C := Tryz.checked) (s := (OpenSpec.ofChange Rows.resolveWrittenSpec)) Iz started (by kernel_rfl) Tryz.func9
   (witness_row_atRef (enc := enc) (C := Tryz.checked) false (nk os) #[.slice none 0 0] rfl (by kernel_rfl) (by kernel_rfl) (by kernel_rfl) (mZ os enc)) ?_
 intro W base args ds gs before hval hW _ Wr _ hL _ _;have Z7 := hW;obtain ⟨p, q, Kv, hV, rfl, hfz, hnd⟩ := hW;have hA : DataW.TrodAll enc Tryz.prog W 0 (fun _ => true) true Tryz.f9.params.toList args.toList ds p := Kv;have Bz : ∀ (j : Nat) t v, Tryz.f9.params[j]? = some t → args[j]? = some v → Value.okWide Tryz.prog W .any base t v := hval;rw [Tryz.params9] at hA Bz;obtain ⟨v0, d0, rfl, rfl, h0⟩ := trodAll_one hA;obtain ⟨rfl, rfl⟩ := trodVars_none hV;obtain ⟨A0, n0, c0, rfl⟩ := okWide_slice Tryz.underlying41 (Bz 0 _ v0 rfl rfl);obtain ⟨f0, h0⟩ := h0;obtain ⟨hn0, hm0, ⟨l0, GQ⟩, hx0⟩ := DE (by simpa [Value.cells] using h0);have hT := yf (show laidMetH Tryz.prog lJ W from hL);refine (nV A0 n0 c0 l0 W (Nat.le_trans hn0 hm0) GQ hT (CB (p := ⟨5, 15, none⟩) hT)).mono fun e W' ⟨he, hb⟩ => ⟨_, he, ?_⟩;exact JG Tryz.underlying4 rfl rfl I4 (by kernel_rfl) Z7 rfl hb
theorem nX : Rows.ResolveWrittenSaid :=
  OpenClaim.holds_of_cond 9 Tryz.f9 rfl rfl rfl rfl rfl rfl rfl ⟨rfl, rfl, rfl, rfl, rfl⟩ rfl rfl rfl rfl rfl (by kernel_rfl) Tryz.func9 (by kernel_rfl)
    (of_decide_eq_true (by kernel_rfl)) (by unfold Func.isWrapper; first | (rw [if_pos (by decide +kernel)]; kernel_rfl) | (rw [if_neg (by decide +kernel)]; exact ⟨rfl, rfl⟩))
    (fun os started H enc _ F => by rw [OpenClaim.pre_eq_preRow]; exact mG os started H enc F)
theorem mU (f : FuncId) (fn : Func) (hf : Tryz.pinned.checked.prog.funcNamed "scriptshift/scriptlaw6.ResolveWritten" = some f) (hfn : Tryz.pinned.checked.prog.funcs[f]? = some fn) :
    true = Tryz.pinned.checked.prog.looks [] ∧ ∀ (j : Nat) t, fn.params[j]? = some t → Tryz.pinned.checked.prog.wantsStandIn t = false := by
 obtain rfl : f = 9 := Option.some.inj ((show Tryz.prog.funcNamed "scriptshift/scriptlaw6.ResolveWritten" = some 9 by kernel_rfl).symm.trans hf) |>.symm;obtain rfl : fn = Tryz.f9 := (Option.some.inj (Tryz.func9.symm.trans hfn)).symm;refine ⟨by kernel_rfl, fun j t ht => ?_⟩;have h : (Tryz.f9.params.toList.all fun t => !Tryz.prog.wantsStandIn t) = true := (by kernel_rfl);have h2 := List.all_eq_true.1 h t (by simpa using Array.mem_of_getElem? ht);have h3 : Tryz.prog.wantsStandIn t = false := (by simpa using h2);exact h3
theorem resolvewritten_card : Rows.ResolveWrittenCardSaid :=
  Claim7.holds_tied_plain_at .later [] _ _ _ _ nX (fun _ h => by cases h) (by kernel_rfl) (fun _ h => by cases h) resolveWritten_row_tie rfl ⟨rfl, rfl⟩ (by kernel_rfl) rfl mU (by kernel_rfl)
end Go.Proofs.YthnhbcohfoodlaaGreatDoor
