/- RunesTurn: WHAT IS ENCODED IS DECODED: right runes come back; and so does a text of which no byte is spoilt: for any runes and every text the law returns true and leaves them as they were. Condition: what the law reads is of bulk at most 1048576 (the statement of the second form); Go's own two tables of package utf8 are as their text lays them (the card ties them). -/
import Derived.Test.YthgkgcdnidkckaaDoorRunesTurn
import Derived.Test.YthgkgcdnidkckaaDoorOpenRunes
import Derived.Test.YthgkgcdnidkckaaDoorOpen
import Derived.Test.YthgkgcdnidkckaaDoorBulk
import Derived.Test.YthgkgcdnidkckaaDoorUtf8Laid
import Derived.Test.YthgkgcdnidkckaaDoorCards
import Derived.Test.YthgkgcdnidkckaaDoorTie
namespace Go.Proofs.YthgkgcdnidkckaaDoor
open Go.RowKit Go.ChangeShapes Go.WideShapes Go.ChangeAt Go.Shelf
open Go.ChangeMaps (open_string shut_string)

theorem runes_turn_reads (os : Os) {H : Type} (enc : TypeId × Value → H) :
    (Rows.OpenSpec.upto Rows.runesTurnSpec).preRow enc Tryd.prog Tryd.f4 Rows.runesTurnUptoRow.domain false Rows.runesTurnUptoRow.laid ((laidWorld os).forCall (fun _ _ => 0) ⟨#[], #[.slice none 0 0, .string ⟨#[]⟩], []⟩).memory #[.slice none 0 0, .string ⟨#[]⟩] := by
  have hw : (DataW.whole enc Tryd.prog ((laidWorld os).forCall (fun _ _ => 0) ⟨#[], #[.slice none 0 0, .string ⟨#[]⟩], []⟩).memory Tryd.f4.params.toList Rows.runesTurnSpec.vars false #[.slice none 0 0, .string ⟨#[]⟩].toList 8).map (fun x => (x.1, x.2.1)) =
      some ([.nil, .lit (.string [])], []) := by kernel_rfl
  obtain ⟨⟨x1, x2, x3⟩, hx, hx1⟩ := Option.map_eq_some_iff.1 hw
  simp only [Prod.mk.injEq] at hx1
  obtain ⟨rfl, rfl⟩ := hx1
  exact OpenSpec.preRow_of_cond 8 hx (by kernel_rfl) (fun k hk => by cases hk; kernel_rfl) (by kernel_rfl) (laid_met os _)

set_option maxRecDepth 100000 in
set_option maxHeartbeats 2000000 in
theorem runes_turn_lifted (os : Os) (started : os.Started) (H : Type) (enc : TypeId × Value → H) (F : Stop.Interp) :
    ReturnsInHanded {} Tryd.checked os 4 .any ((Rows.OpenSpec.upto Rows.runesTurnSpec).preRow enc Tryd.prog Tryd.f4 Rows.runesTurnUptoRow.domain false Rows.runesTurnUptoRow.laid) (((Rows.OpenSpec.upto Rows.runesTurnSpec).at F).post enc Tryd.prog Tryd.f4 false true false false) := by
  refine returnsInHanded_of_row (C := Tryd.checked) (s := (Rows.OpenSpec.upto Rows.runesTurnSpec)) own_knob started (by kernel_rfl) Tryd.func4
    (witness_row_atRef (enc := enc) (C := Tryd.checked) false (laidWorld os) #[.slice none 0 0, .string ⟨#[]⟩] rfl (by kernel_rfl) (by kernel_rfl) (by kernel_rfl) (runes_turn_reads os enc)) ?_
  intro W base args ds gs before hval hW _ hcond _ hL _ _
  have hk := hcond _ rfl
  have hW' := hW
  obtain ⟨p, q, hA0, hV, rfl, hfz, hnd⟩ := hW
  have hA : DataW.TrodAll enc Tryd.prog W 0 (fun _ => true) true Tryd.f4.params.toList args.toList ds p := hA0
  have hv2 : ∀ (j : Nat) t v, Tryd.f4.params[j]? = some t → args[j]? = some v → Value.okWide Tryd.prog W .any base t v := hval
  rw [Tryd.params4] at hA hv2
  obtain ⟨v0, v1, d0, d1, p0, p1, rfl, rfl, rfl, h0, h1⟩ := trodAll_two hA
  obtain ⟨rfl, rfl⟩ := trodVars_none hV
  obtain ⟨A0, n0, c0, rfl⟩ := okWide_slice Tryd.underlying25 (hv2 0 _ v0 rfl rfl)
  obtain ⟨f0, h0⟩ := h0
  obtain ⟨hn0, hm0, ⟨l0, hl0⟩, hx0⟩ := open_runes (by simpa [Value.cells] using h0)
  have hb0 := bulk_slice hx0
  dsimp only at hb0
  obtain ⟨s1, rfl, rfl, rfl, hs1⟩ := open_string Tryd.underlying9 (hv2 1 _ v1 rfl rfl) h1
  have hb1 := bulk_string (H := H) s1
  have hbk := bulk_bound hk
  simp only [List.append_nil, Rows.uptoBulkAll] at hbk
  have hT : Tabs W := tabs_of_laid (show laidMetH Tryd.prog [("unicode/utf8.acceptRanges", Rows.laid_unicode_utf8_acceptRanges), ("unicode/utf8.first", Rows.laid_unicode_utf8_first)] W from hL)
  refine (runes_turn A0 n0 c0 l0 s1 W (by omega) (by omega) hl0 hT).mono fun e W' ⟨he, hb⟩ => ⟨_, he, ?_⟩
  exact law_post Tryd.underlying4 rfl rfl laid_out (by kernel_rfl) hW' rfl hb

theorem runes_turn_said : Rows.RunesTurnUptoSaid :=
  OpenClaim.holds_of_cond 4 Tryd.f4 rfl rfl rfl rfl rfl rfl rfl ⟨rfl, rfl, rfl, rfl, rfl⟩ rfl rfl rfl rfl rfl (by kernel_rfl) Tryd.func4 (by kernel_rfl)
    (of_decide_eq_true (by kernel_rfl)) (by unfold Func.isWrapper; first | (rw [if_pos (by decide +kernel)]; kernel_rfl) | (rw [if_neg (by decide +kernel)]; exact ⟨rfl, rfl⟩))
    (fun os started H enc _ F => by rw [OpenClaim.pre_eq_preRow]; exact runes_turn_lifted os started H enc F)

theorem runes_turn_plain (f : FuncId) (fn : Func) (hf : Tryd.pinned.checked.prog.funcNamed "scriptshift/scriptlaw1.RunesTurn" = some f) (hfn : Tryd.pinned.checked.prog.funcs[f]? = some fn) :
    false = Tryd.pinned.checked.prog.looks [] ∧ ∀ (j : Nat) t, fn.params[j]? = some t → Tryd.pinned.checked.prog.wantsStandIn t = false := by
  obtain rfl : f = 4 := Option.some.inj ((show Tryd.prog.funcNamed "scriptshift/scriptlaw1.RunesTurn" = some 4 by kernel_rfl).symm.trans hf) |>.symm
  obtain rfl : fn = Tryd.f4 := (Option.some.inj (Tryd.func4.symm.trans hfn)).symm
  refine ⟨by kernel_rfl, fun j t ht => ?_⟩
  have h : (Tryd.f4.params.toList.all fun t => !Tryd.prog.wantsStandIn t) = true := by kernel_rfl
  have h2 := List.all_eq_true.1 h t (by simpa using Array.mem_of_getElem? ht)
  have h3 : Tryd.prog.wantsStandIn t = false := by simpa using h2
  exact h3

/-- THE CARD. -/
theorem runes_turn_card : Rows.RunesTurnUptoCardSaid :=
  Claim7.holds_tied_plain_at .later [] _ _ _ _ runes_turn_said (fun _ h => by cases h) (by kernel_rfl) (fun _ h => by cases h) runesTurnUpto_row_tie rfl ⟨rfl, rfl⟩ (by kernel_rfl) rfl runes_turn_plain (by kernel_rfl)

end Go.Proofs.YthgkgcdnidkckaaDoor
