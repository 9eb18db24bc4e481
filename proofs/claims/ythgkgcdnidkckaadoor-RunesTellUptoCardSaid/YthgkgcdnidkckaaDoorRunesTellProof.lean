/- RunesTell: Right, Decode, Encode, Places and Spoilt tell the runes of any bytes, the text of any runes, and where they begin: the law returns true and leaves what it was handed as it was. Condition: what the law reads is of bulk at most 1048576 (the statement of the second form); Go's own two tables of package utf8 are as their text lays them (the card ties them). -/
import Derived.Test.YthgkgcdnidkckaaDoorRunesTell
import Derived.Test.YthgkgcdnidkckaaDoorOpenRunes
import Derived.Test.YthgkgcdnidkckaaDoorOpen
import Derived.Test.YthgkgcdnidkckaaDoorBulk
import Derived.Test.YthgkgcdnidkckaaDoorUtf8Laid
import Derived.Test.YthgkgcdnidkckaaDoorCards
import Derived.Test.YthgkgcdnidkckaaDoorTie
namespace Go.Proofs.YthgkgcdnidkckaaDoor
open Go.RowKit Go.ChangeShapes Go.WideShapes Go.ChangeAt Go.Shelf
open Go.ChangeMaps (open_string shut_string)

theorem runes_tell_reads (os : Os) {H : Type} (enc : TypeId × Value → H) :
    (Rows.OpenSpec.upto Rows.runesTellSpec).preRow enc Tryd.prog Tryd.f5 Rows.runesTellUptoRow.domain false Rows.runesTellUptoRow.laid ((laidWorld os).forCall (fun _ _ => 0) ⟨#[], #[.string ⟨#[]⟩, .slice none 0 0, .int .i32 0], []⟩).memory #[.string ⟨#[]⟩, .slice none 0 0, .int .i32 0] := by
  have hw : (DataW.whole enc Tryd.prog ((laidWorld os).forCall (fun _ _ => 0) ⟨#[], #[.string ⟨#[]⟩, .slice none 0 0, .int .i32 0], []⟩).memory Tryd.f5.params.toList Rows.runesTellSpec.vars false #[.string ⟨#[]⟩, .slice none 0 0, .int .i32 0].toList 8).map (fun x => (x.1, x.2.1)) =
      some ([.lit (.string []), .nil, .lit (.int .i32 0)], []) := by kernel_rfl
  obtain ⟨⟨x1, x2, x3⟩, hx, hx1⟩ := Option.map_eq_some_iff.1 hw
  simp only [Prod.mk.injEq] at hx1
  obtain ⟨rfl, rfl⟩ := hx1
  exact OpenSpec.preRow_of_cond 8 hx (by kernel_rfl) (fun k hk => by cases hk; kernel_rfl) (by kernel_rfl) (laid_met os _)

set_option maxRecDepth 100000 in
set_option maxHeartbeats 2000000 in
theorem runes_tell_lifted (os : Os) (started : os.Started) (H : Type) (enc : TypeId × Value → H) (F : Stop.Interp) :
    ReturnsInHanded {} Tryd.checked os 5 .any ((Rows.OpenSpec.upto Rows.runesTellSpec).preRow enc Tryd.prog Tryd.f5 Rows.runesTellUptoRow.domain false Rows.runesTellUptoRow.laid) (((Rows.OpenSpec.upto Rows.runesTellSpec).at F).post enc Tryd.prog Tryd.f5 false true false false) := by
  refine returnsInHanded_of_row (C := Tryd.checked) (s := (Rows.OpenSpec.upto Rows.runesTellSpec)) own_knob started (by kernel_rfl) Tryd.func5
    (witness_row_atRef (enc := enc) (C := Tryd.checked) false (laidWorld os) #[.string ⟨#[]⟩, .slice none 0 0, .int .i32 0] rfl (by kernel_rfl) (by kernel_rfl) (by kernel_rfl) (runes_tell_reads os enc)) ?_
  intro W base args ds gs before hval hW _ hcond _ hL _ _
  have hk := hcond _ rfl
  have hW' := hW
  obtain ⟨p, q, hA0, hV, rfl, hfz, hnd⟩ := hW
  have hA : DataW.TrodAll enc Tryd.prog W 0 (fun _ => true) true Tryd.f5.params.toList args.toList ds p := hA0
  have hv2 : ∀ (j : Nat) t v, Tryd.f5.params[j]? = some t → args[j]? = some v → Value.okWide Tryd.prog W .any base t v := hval
  rw [Tryd.params5] at hA hv2
  obtain ⟨v0, v1, v2, d0, d1, d2, p0, p1, p2, rfl, rfl, rfl, h0, h1, h2⟩ := trodAll_three hA
  obtain ⟨rfl, rfl⟩ := trodVars_none hV
  obtain ⟨s0, rfl, rfl, rfl, hs0⟩ := open_string Tryd.underlying9 (hv2 0 _ v0 rfl rfl) h0
  have hb0 := bulk_string (H := H) s0
  obtain ⟨A1, n1, c1, rfl⟩ := okWide_slice Tryd.underlying25 (hv2 1 _ v1 rfl rfl)
  obtain ⟨f1, h1⟩ := h1
  obtain ⟨hn1, hm1, ⟨l1, hl1⟩, hx1⟩ := open_runes (by simpa [Value.cells] using h1)
  have hb1 := bulk_slice hx1
  dsimp only at hb1
  obtain ⟨r2, rfl, rfl, rfl, wr2⟩ := open_int Tryd.underlying21 (hv2 2 _ v2 rfl rfl) h2
  have hbk := bulk_bound hk
  simp only [List.append_nil, Rows.uptoBulkAll] at hbk
  have hT : Tabs W := tabs_of_laid (show laidMetH Tryd.prog [("unicode/utf8.acceptRanges", Rows.laid_unicode_utf8_acceptRanges), ("unicode/utf8.first", Rows.laid_unicode_utf8_first)] W from hL)
  refine (runes_tell s0 A1 n1 c1 l1 r2 W (by omega) (by omega) hl1 hT).mono fun e W' ⟨he, hb⟩ => ⟨_, he, ?_⟩
  exact law_post Tryd.underlying4 rfl rfl laid_out (by kernel_rfl) hW' rfl hb

theorem runes_tell_said : Rows.RunesTellUptoSaid :=
  OpenClaim.holds_of_cond 5 Tryd.f5 rfl rfl rfl rfl rfl rfl rfl ⟨rfl, rfl, rfl, rfl, rfl⟩ rfl rfl rfl rfl rfl (by kernel_rfl) Tryd.func5 (by kernel_rfl)
    (of_decide_eq_true (by kernel_rfl)) (by unfold Func.isWrapper; first | (rw [if_pos (by decide +kernel)]; kernel_rfl) | (rw [if_neg (by decide +kernel)]; exact ⟨rfl, rfl⟩))
    (fun os started H enc _ F => by rw [OpenClaim.pre_eq_preRow]; exact runes_tell_lifted os started H enc F)

theorem runes_tell_plain (f : FuncId) (fn : Func) (hf : Tryd.pinned.checked.prog.funcNamed "scriptshift/scriptlaw1.RunesTell" = some f) (hfn : Tryd.pinned.checked.prog.funcs[f]? = some fn) :
    false = Tryd.pinned.checked.prog.looks [] ∧ ∀ (j : Nat) t, fn.params[j]? = some t → Tryd.pinned.checked.prog.wantsStandIn t = false := by
  obtain rfl : f = 5 := Option.some.inj ((show Tryd.prog.funcNamed "scriptshift/scriptlaw1.RunesTell" = some 5 by kernel_rfl).symm.trans hf) |>.symm
  obtain rfl : fn = Tryd.f5 := (Option.some.inj (Tryd.func5.symm.trans hfn)).symm
  refine ⟨by kernel_rfl, fun j t ht => ?_⟩
  have h : (Tryd.f5.params.toList.all fun t => !Tryd.prog.wantsStandIn t) = true := by kernel_rfl
  have h2 := List.all_eq_true.1 h t (by simpa using Array.mem_of_getElem? ht)
  have h3 : Tryd.prog.wantsStandIn t = false := by simpa using h2
  exact h3

/-- THE CARD. -/
theorem runes_tell_card : Rows.RunesTellUptoCardSaid :=
  Claim7.holds_tied_plain_at .later [] _ _ _ _ runes_tell_said (fun _ h => by cases h) (by kernel_rfl) (fun _ h => by cases h) runesTellUpto_row_tie rfl ⟨rfl, rfl⟩ (by kernel_rfl) rfl runes_tell_plain (by kernel_rfl)

end Go.Proofs.YthgkgcdnidkckaaDoor
