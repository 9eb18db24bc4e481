/- What a pass makes of a piece, by the document's answer: passR, and it is passI where nothing is wrong with the pass. The walk of scriptref13.Pass. -/
import Derived.Test.YtfmebbnccjaadaaChainGoAll
import Derived.Test.YtfmebbnccjaadaaRefCompile
import Derived.OneCell
namespace Go.Proofs.Ytfmebbnccjaadaa
open Go.RowKit

def sameP (x : Int) : Int := x
theorem map_same (l : List Int) : l.map sameP = l := by rw [show sameP = id from rfl, List.map_id]
def nameMap (nm : ByteArray) (l : List Int) : List Int := if isUpper nm = true then l.map upP else if isLower nm = true then l.map lowP else if isNull nm = true then l else []
def passR (p : PassD) (l : List Int) : List Int × Int :=
  if isNone p.name = true then (if (compP p.rules).2.1 ≠ 0 ∧ textP l = 0 then ([], (compP p.rules).2.1) else ((runRefP p.rules l).1.text, (runRefP p.rules l).2.1)) else (nameMap p.name l, 0)
theorem none_not {nm : ByteArray} (h : isNone nm = true) : isUpper nm = false ∧ isLower nm = false ∧ isRemove nm = false ∧ isNull nm = false := by
  have e : nm.toList = [] := by unfold isNone at h; simpa using h
  unfold isUpper isLower isRemove isNull
  rw [e]
  exact ⟨rfl, rfl, rfl, rfl⟩
theorem pass_four {nm : ByteArray} (h : passB nm = true) : isUpper nm = true ∨ isLower nm = true ∨ isRemove nm = true ∨ isNull nm = true := by
  have e1 : nmLower.toList = [108, 111, 119, 101, 114] := by decide +kernel
  have e2 : nmNull.toList = [110, 117, 108, 108] := by decide +kernel
  have e3 : nmRemove.toList = [114, 101, 109, 111, 118, 101] := by decide +kernel
  have e4 : nmUpper.toList = [117, 112, 112, 101, 114] := by decide +kernel
  unfold passB isOne at h
  simp only [List.any_cons, List.any_nil, Bool.or_false, Bool.or_eq_true] at h
  unfold isUpper isLower isRemove isNull
  rw [e1, e2, e3, e4] at h
  rcases h with h | h | h | h
  · exact .inr (.inl h)
  · exact .inr (.inr (.inr h))
  · exact .inr (.inr (.inl h))
  · exact .inl h
theorem play_plain {l : List RuleD} (t : List Int) (h : (rulesW l).1 = 0) : (if (compP l).2.1 ≠ 0 ∧ textP t = 0 then (([] : List Int), (compP l).2.1) else ((runRefP l t).1.text, (runRefP l t).2.1)) = ((playP l t).1.text, (playP l t).2.1) := by
  have hck : checkP l t = (textP t, 0) := by unfold checkP; rw [if_neg (fun e => e h)]
  by_cases ht : textP t = 0
  · by_cases hc : (compP l).2.1 = 0
    · have e1 : playP l t = okOut (runGo l (8 * t.length + 40) [] t 0 0) := by unfold playP; rw [if_neg (fun e => e h), if_neg (fun e => e ht), if_neg (fun e => e hc)]
      have e2 : runRefP l t = okOut (runGo l (8 * t.length + 40) [] t 0 0) := by unfold runRefP; rw [hck, if_neg (fun e => e ht)]
      rw [if_neg (fun e => e.1 hc), e1, e2]
    · have e1 : playP l t = (noOut, (compP l).2) := by unfold playP; rw [if_neg (fun e => e h), if_neg (fun e => e ht), if_pos hc]
      rw [if_pos ⟨hc, ht⟩, e1]
      rfl
  · have e1 : playP l t = (noOut, (textP t, 0)) := by unfold playP; rw [if_neg (fun e => e h), if_pos ht]
    have e2 : runRefP l t = (noOut, (textP t, 0)) := by unfold runRefP; rw [hck, if_pos ht]
    rw [if_neg (fun e => ht e.2), e1, e2]
theorem pass_same {p : PassD} (h : passW p = 0) (l : List Int) : passR p l = passI p l := by
  unfold passW at h
  unfold passR passI
  by_cases hn : isNone p.name = true
  · rw [if_pos hn] at h
    obtain ⟨h1, h2, h3, h4⟩ := none_not hn
    rw [h1, h2, h3, h4, if_pos hn, play_plain l h]
    rfl
  · rw [if_neg hn] at h ⊢
    cases hb : passB p.name
    · rw [hb, if_pos rfl] at h; cases h
    · unfold nameMap
      rcases pass_four hb with h1 | h1 | h1 | h1
      · rw [if_pos h1, if_pos h1]
      · by_cases hu : isUpper p.name = true
        · rw [if_pos hu, if_pos hu]
        · rw [if_neg hu, if_neg hu, if_pos h1, if_pos h1]
      · have hu : ¬ isUpper p.name = true := by unfold isUpper isRemove at *; intro e; rw [beq_iff_eq] at e h1; rw [e] at h1; cases h1
        have hl : ¬ isLower p.name = true := by unfold isLower isRemove at *; intro e; rw [beq_iff_eq] at e h1; rw [e] at h1; cases h1
        have hx : ¬ isNull p.name = true := by unfold isNull isRemove at *; intro e; rw [beq_iff_eq] at e h1; rw [e] at h1; cases h1
        rw [if_neg hu, if_neg hu, if_neg hl, if_neg hl, if_pos h1, if_neg hx]
      · have hu : ¬ isUpper p.name = true := by unfold isUpper isNull at *; intro e; rw [beq_iff_eq] at e h1; rw [e] at h1; cases h1
        have hl : ¬ isLower p.name = true := by unfold isLower isNull at *; intro e; rw [beq_iff_eq] at e h1; rw [e] at h1; cases h1
        have hx : ¬ isRemove p.name = true := by unfold isRemove isNull at *; intro e; rw [beq_iff_eq] at e h1; rw [e] at h1; cases h1
        rw [if_neg hu, if_neg hu, if_neg hl, if_neg hl, if_neg hx, if_pos h1, if_pos h1]

def RmRel (w : World) (cs : Array Value) (g : Int → Int) (l : List Int) (n : Nat) (s10 i : Value) (wr : World) : Prop :=
  ∃ k : Nat, k ≤ n ∧ i = .int .i64 k ∧ wr.ownsRow w.heap.size 21 1 s10 k (runeCells ((l.map g).take k)) ∧ Blk wr w.heap.size 104 cs ∧ Below w.heap.size w wr
def RzRel (w : World) (cs : Array Value) (n : Nat) (s10 i : Value) (wr : World) : Prop :=
  ∃ k : Nat, k ≤ n ∧ i = .int .i64 k ∧ s10 = .slice none 0 0 ∧ Blk wr w.heap.size 104 cs ∧ Below w.heap.size w wr
def RpPost (lo : Nat) (w' : World) (o : List Int × Int) (e : Ending) : Prop :=
  ∃ (A : Option Addr) (n c : Nat), e = .returned (.tuple #[.slice A n c, .int .i64 o.2]) ∧ RdX w' (fun b => lo ≤ b) 1 A n (runeCells o.1)

set_option maxRecDepth 100000 in
set_option maxHeartbeats 6400000 in
theorem ref13_pass (X : Nat → Prop) (p : PassD) (Ar A : Option Addr) (nr cr n c : Nat) (l : List Int) (w : World) (hnr : nr ≤ maxLen) (hp : ListX (RuleC w X) w X 7 Ar nr p.rules) (hnm : n ≤ 1000000) (hl : RdR w w.heap.size A n l) :
    Calls Try.prog 57 #[.agg #[.string p.name, .slice Ar nr cr], .slice A n c] w fun e w' => RpPost w.heap.size w' (passR p l) e ∧ Below w.heap.size w w' := by
  obtain ⟨i0, hi, z0, z1, z2⟩ := info_parts Try.info21
  have HB0 := Lib.hid ((Below.refl w.heap.size w).alloc (Nat.le_refl _) (.cells #[.string p.name, .slice Ar nr cr] 104))
  have HK0 := Lib.hid (Blk.new w 104 #[.string p.name, .slice Ar nr cr])
  have HLT := Lib.hid (fun (W : World) (hb : Below w.heap.size w W) => show RdR W W.heap.size A n l from (Rd.below hl hb).more hb.size)
  have HRU := Lib.hid (fun (W : World) (hb : Below w.heap.size w W) => show ListX (RuleC W X) W X 7 Ar nr p.rules from hp.keep (Keeps.any hb) (fun _ _ => RuleC.keep (Keeps.any hb)))
  have HLW := Lib.hid hl
  have HLEN := Lib.hid hl.len
  clear hl hp
  have d0 : (w.alloc (.cells #[.string p.name, .slice Ar nr cr] 104)).cell? ⟨w.heap.size, 0, none⟩ = some (.string p.name) := HK0.out.cell 0
  have d1 : (w.alloc (.cells #[.string p.name, .slice Ar nr cr] 104)).cell? ⟨w.heap.size, 1, none⟩ = some (.slice Ar nr cr) := HK0.out.cell 1
  go_enter Try.func57, Try.ntmps57
  go_upto_region 1 with fail
  generalize hW0 : w.alloc (.cells #[.string p.name, .slice Ar nr cr] 104) = W0 at *
  cases en : isNone p.name
  · have en1 : (p.name.toList == []) = false := en
    generalize hcs : (#[.string p.name, .slice Ar nr cr] : Array Value) = cs at *
    have HC0 := Lib.hid (show cs[0]? = some (.string p.name) by subst hcs; rfl)
    clear hcs d1
    have HPR := Lib.hid (show passR p l = (nameMap p.name l, 0) by unfold passR; rw [en]; rfl)
    clear en
    cases e1 : isUpper p.name
    · have h1 : (p.name.toList == [117, 112, 112, 101, 114]) = false := e1
      cases e2 : isLower p.name
      · have h2 : (p.name.toList == [108, 111, 119, 101, 114]) = false := e2
        cases e3 : isNull p.name
        · have h3 : (p.name.toList == [110, 117, 108, 108]) = false := e3
          have HP := Lib.hid (show passR p l = ([], 0) by rw [HPR.out]; unfold nameMap; rw [e1, e2, e3]; rfl)
          clear e1 e2 e3
          go_wp2_with fail
          go_loopw [10, 45] (RzRel w cs n) (fun _ i _ => n - (intOf i).toNat)
          case atStart => exact ⟨0, Nat.zero_le _, rfl, rfl, HK0.out, HB0.out⟩
          case round =>
            obtain ⟨k, hk, rfl, rfl, hkb, hb⟩ := hrel
            by_cases hlt : k < n
            · obtain ⟨x, hx⟩ : ∃ z, l[k]? = some z := ⟨_, List.getElem?_eq_getElem (by rw [HLEN.out]; exact hlt)⟩
              obtain ⟨b, off, rfl, hbb, c0⟩ := HLW.out.at hlt
              rw [show l.getD k 0 = x by simp [List.getD, hx]] at c0
              have d0 := (hb.cell (p := ⟨b, off + k, none⟩) hbb).trans c0
              have d1 : wr.cell? ⟨w.heap.size, 0, none⟩ = some (.string p.name) := (hkb.cell 0).trans HC0.out
              have HB := Lib.hid hb
              have HK := Lib.hid hkb
              clear hx c0 hb hkb
              go_wp2_with fail
              exact ⟨⟨k + 1, by omega, by go_num, rfl, HK.out, HB.out⟩, by simp [intOf]; omega⟩
            · obtain rfl : k = n := by omega
              clear hkb
              go_wp2_with fail
              go_ret2
              rw [HP.out]
              exact ⟨⟨none, 0, 0, rfl, ⟨rfl, fun h => absurd h (Nat.lt_irrefl 0)⟩⟩, hb⟩
        · have h3 : (p.name.toList == [110, 117, 108, 108]) = true := e3
          have HP := Lib.hid (show passR p l = (l.map sameP, 0) by rw [HPR.out, map_same]; unfold nameMap; rw [e1, e2, e3]; rfl)
          clear e1 e2 e3
          go_wp2_with fail
          go_loopw [10, 45] (RmRel w cs sameP l n) (fun _ i _ => n - (intOf i).toNat)
          case atStart => exact ⟨0, Nat.zero_le _, rfl, World.ownsRow_nil _ _ _ _, HK0.out, HB0.out⟩
          case round =>
            obtain ⟨k, hk, rfl, hown, hkb, hb⟩ := hrel
            have hz := hb.size
            obtain ⟨Av, cv, rfl, _⟩ := own_form hown
            by_cases hlt : k < n
            · obtain ⟨x, hx⟩ : ∃ z, l[k]? = some z := ⟨_, List.getElem?_eq_getElem (by rw [HLEN.out]; exact hlt)⟩
              obtain ⟨b, off, rfl, hbb, c0⟩ := HLW.out.at hlt
              rw [show l.getD k 0 = x by simp [List.getD, hx]] at c0
              have d0 := (hb.cell (p := ⟨b, off + k, none⟩) hbb).trans c0
              have d1 : wr.cell? ⟨w.heap.size, 0, none⟩ = some (.string p.name) := (hkb.cell 0).trans HC0.out
              have HS := Lib.hid (map_snoc sameP hx)
              have HO := Lib.hid hown
              have HB := Lib.hid hb
              have HK := Lib.hid hkb
              clear hx c0 hown hb hkb
              have HOX := Lib.hid HO.out
              have HBX := Lib.hid HB.out
              have HKX := Lib.hid HK.out
              have HO1 := Lib.hid (World.ownsRow.alloc (HOX.out) (.cells #[.int .i32 x] 21))
              have HB2 := Lib.hid (HBX.out.alloc HBX.out.size (.cells #[.int .i32 x] 21))
              have HK2 := Lib.hid (HKX.out.alloc (.cells #[.int .i32 x] 21))
              have HN := Lib.hid (Rd.new wr 21 1 1 [.int .i32 x] rfl)
              go_wp2_with (at_builtin; refine wpList_append_rd _ rfl (.tmp 67) (.tmp 69) 23 rfl w.heap.size 21 i0 _ 1 4 Try.underlying23 hi z0 z1 z2 rfl (by decide) _ k _ rfl HO1.out _ (some ⟨wr.heap.size, 0, none⟩) 1 1 (runeCells [x]) rfl HN.out (runeCells_one _) (by simp only [maxLen]; omega) (by omega) HB2.out.size ?_)
              intro v9 w9 happ
              have ho9 := happ.own
              rw [show (runeCells ((l.map sameP).take k) ++ runeCells [x]) = runeCells ((l.map sameP).take (k + 1)) from HS.out] at ho9
              have HO9 := Lib.hid ho9
              have HB9 := Lib.hid (HB2.out.trans (happ.below HB2.out.size HO1.out))
              have HK9 := Lib.hid (blk_app HK2.out HO1.out (by decide) happ)
              clear happ ho9
              go_wp2_with fail
              exact ⟨⟨k + 1, by omega, by go_num, HO9.out, HK9.out, HB9.out⟩, by simp [intOf]; omega⟩
            · obtain rfl : k = n := by omega
              rw [List.take_of_length_le (by rw [List.length_map, HLEN.out]; exact Nat.le_refl _)] at hown
              have HO := Lib.hid hown
              clear hown hkb
              go_wp2_with fail
              go_ret2
              rw [HP.out]
              exact ⟨⟨_, _, _, rfl, RdX.of_own HO.out (fun b hb => (own_lt HO.out hb).1)⟩, hb⟩
      · have h2 : (p.name.toList == [108, 111, 119, 101, 114]) = true := e2
        have HP := Lib.hid (show passR p l = (l.map lowP, 0) by rw [HPR.out]; unfold nameMap; rw [e1, e2]; rfl)
        clear e1 e2
        go_wp2_with fail
        go_loopw [10, 45] (RmRel w cs lowP l n) (fun _ i _ => n - (intOf i).toNat)
        case atStart => exact ⟨0, Nat.zero_le _, rfl, World.ownsRow_nil _ _ _ _, HK0.out, HB0.out⟩
        case round =>
          obtain ⟨k, hk, rfl, hown, hkb, hb⟩ := hrel
          have hz := hb.size
          obtain ⟨Av, cv, rfl, _⟩ := own_form hown
          by_cases hlt : k < n
          · obtain ⟨x, hx⟩ : ∃ z, l[k]? = some z := ⟨_, List.getElem?_eq_getElem (by rw [HLEN.out]; exact hlt)⟩
            obtain ⟨b, off, rfl, hbb, c0⟩ := HLW.out.at hlt
            rw [show l.getD k 0 = x by simp [List.getD, hx]] at c0
            have d0 := (hb.cell (p := ⟨b, off + k, none⟩) hbb).trans c0
            have d1 : wr.cell? ⟨w.heap.size, 0, none⟩ = some (.string p.name) := (hkb.cell 0).trans HC0.out
            have HS := Lib.hid (map_snoc lowP hx)
            have HO := Lib.hid hown
            have HB := Lib.hid hb
            have HK := Lib.hid hkb
            clear hx c0 hown hb hkb
            go_wp2_with fail
            refine (ref_lower x wr).mono ?_
            rintro e w1 ⟨rfl, h1⟩
            obtain rfl := h1.symm
            have HOX := Lib.hid HO.out
            have HBX := Lib.hid HB.out
            have HKX := Lib.hid HK.out
            have HO1 := Lib.hid (World.ownsRow.alloc (HOX.out) (.cells #[.int .i32 (lowP x)] 21))
            have HB2 := Lib.hid (HBX.out.alloc HBX.out.size (.cells #[.int .i32 (lowP x)] 21))
            have HK2 := Lib.hid (HKX.out.alloc (.cells #[.int .i32 (lowP x)] 21))
            have HN := Lib.hid (Rd.new wr 21 1 1 [.int .i32 (lowP x)] rfl)
            go_wp2_with (at_builtin; refine wpList_append_rd _ rfl (.tmp 60) (.tmp 63) 23 rfl w.heap.size 21 i0 _ 1 4 Try.underlying23 hi z0 z1 z2 rfl (by decide) _ k _ rfl HO1.out _ (some ⟨wr.heap.size, 0, none⟩) 1 1 (runeCells [(lowP x)]) rfl HN.out (runeCells_one _) (by simp only [maxLen]; omega) (by omega) HB2.out.size ?_)
            intro v9 w9 happ
            have ho9 := happ.own
            rw [show (runeCells ((l.map lowP).take k) ++ runeCells [(lowP x)]) = runeCells ((l.map lowP).take (k + 1)) from HS.out] at ho9
            have HO9 := Lib.hid ho9
            have HB9 := Lib.hid (HB2.out.trans (happ.below HB2.out.size HO1.out))
            have HK9 := Lib.hid (blk_app HK2.out HO1.out (by decide) happ)
            clear happ ho9
            go_wp2_with fail
            exact ⟨⟨k + 1, by omega, by go_num, HO9.out, HK9.out, HB9.out⟩, by simp [intOf]; omega⟩
          · obtain rfl : k = n := by omega
            rw [List.take_of_length_le (by rw [List.length_map, HLEN.out]; exact Nat.le_refl _)] at hown
            have HO := Lib.hid hown
            clear hown hkb
            go_wp2_with fail
            go_ret2
            rw [HP.out]
            exact ⟨⟨_, _, _, rfl, RdX.of_own HO.out (fun b hb => (own_lt HO.out hb).1)⟩, hb⟩
    · have h1 : (p.name.toList == [117, 112, 112, 101, 114]) = true := e1
      have HP := Lib.hid (show passR p l = (l.map upP, 0) by rw [HPR.out]; unfold nameMap; rw [e1]; rfl)
      clear e1
      go_wp2_with fail
      go_loopw [10, 45] (RmRel w cs upP l n) (fun _ i _ => n - (intOf i).toNat)
      case atStart => exact ⟨0, Nat.zero_le _, rfl, World.ownsRow_nil _ _ _ _, HK0.out, HB0.out⟩
      case round =>
        obtain ⟨k, hk, rfl, hown, hkb, hb⟩ := hrel
        have hz := hb.size
        obtain ⟨Av, cv, rfl, _⟩ := own_form hown
        by_cases hlt : k < n
        · obtain ⟨x, hx⟩ : ∃ z, l[k]? = some z := ⟨_, List.getElem?_eq_getElem (by rw [HLEN.out]; exact hlt)⟩
          obtain ⟨b, off, rfl, hbb, c0⟩ := HLW.out.at hlt
          rw [show l.getD k 0 = x by simp [List.getD, hx]] at c0
          have d0 := (hb.cell (p := ⟨b, off + k, none⟩) hbb).trans c0
          have d1 : wr.cell? ⟨w.heap.size, 0, none⟩ = some (.string p.name) := (hkb.cell 0).trans HC0.out
          have HS := Lib.hid (map_snoc upP hx)
          have HO := Lib.hid hown
          have HB := Lib.hid hb
          have HK := Lib.hid hkb
          clear hx c0 hown hb hkb
          go_wp2_with fail
          refine (ref_upper x wr).mono ?_
          rintro e w1 ⟨rfl, h1⟩
          obtain rfl := h1.symm
          have HOX := Lib.hid HO.out
          have HBX := Lib.hid HB.out
          have HKX := Lib.hid HK.out
          have HO1 := Lib.hid (World.ownsRow.alloc (HOX.out) (.cells #[.int .i32 (upP x)] 21))
          have HB2 := Lib.hid (HBX.out.alloc HBX.out.size (.cells #[.int .i32 (upP x)] 21))
          have HK2 := Lib.hid (HKX.out.alloc (.cells #[.int .i32 (upP x)] 21))
          have HN := Lib.hid (Rd.new wr 21 1 1 [.int .i32 (upP x)] rfl)
          go_wp2_with (at_builtin; refine wpList_append_rd _ rfl (.tmp 53) (.tmp 56) 23 rfl w.heap.size 21 i0 _ 1 4 Try.underlying23 hi z0 z1 z2 rfl (by decide) _ k _ rfl HO1.out _ (some ⟨wr.heap.size, 0, none⟩) 1 1 (runeCells [(upP x)]) rfl HN.out (runeCells_one _) (by simp only [maxLen]; omega) (by omega) HB2.out.size ?_)
          intro v9 w9 happ
          have ho9 := happ.own
          rw [show (runeCells ((l.map upP).take k) ++ runeCells [(upP x)]) = runeCells ((l.map upP).take (k + 1)) from HS.out] at ho9
          have HO9 := Lib.hid ho9
          have HB9 := Lib.hid (HB2.out.trans (happ.below HB2.out.size HO1.out))
          have HK9 := Lib.hid (blk_app HK2.out HO1.out (by decide) happ)
          clear happ ho9
          go_wp2_with fail
          exact ⟨⟨k + 1, by omega, by go_num, HO9.out, HK9.out, HB9.out⟩, by simp [intOf]; omega⟩
        · obtain rfl : k = n := by omega
          rw [List.take_of_length_le (by rw [List.length_map, HLEN.out]; exact Nat.le_refl _)] at hown
          have HO := Lib.hid hown
          clear hown hkb
          go_wp2_with fail
          go_ret2
          rw [HP.out]
          exact ⟨⟨_, _, _, rfl, RdX.of_own HO.out (fun b hb => (own_lt HO.out hb).1)⟩, hb⟩
  · have en1 : (p.name.toList == []) = true := en
    have HPR := Lib.hid (show passR p l = if (compP p.rules).2.1 ≠ 0 ∧ textP l = 0 then ([], (compP p.rules).2.1) else ((runRefP p.rules l).1.text, (runRefP p.rules l).2.1) by unfold passR; rw [en]; rfl)
    clear en hW0
    have HCP := Lib.hid (ref_compile X p.rules Ar nr cr W0 hnr (HRU.out W0 HB0.out))
    go_wp2_with fail
    refine HCP.out.mono ?_
    rintro e w1 ⟨⟨v, rfl, _⟩, hb1⟩
    obtain ⟨hs, k1, k2, hC⟩ : ∃ hs k1 k2, compP p.rules = (hs, (k1, k2)) := ⟨_, _, _, rfl⟩
    rw [hC] at HPR ⊢
    dsimp only at HPR ⊢
    have hba := (Below.refl w1.heap.size w1).alloc (Nat.le_refl _) (.cells #[.int .i64 k1, .int .i64 k2] 28)
    have HK1 := Lib.hid (Blk.below (Blk.below HK0.out hb1 HK0.out.lt) hba (by have := HK0.out.lt; have := hb1.size; omega))
    have HB1 := Lib.hid (HB0.out.trans ((hb1.trans (hba.mono hb1.size)).mono HB0.out.size))
    have HF1 := Lib.hid (Blk.new w1 28 #[.int .i64 k1, .int .i64 k2])
    clear hba hb1 HCP hC d0 d1
    go_upto_region 3 with fail
    generalize w1.alloc (.cells #[.int .i64 k1, .int .i64 k2] 28) = W1 at *
    have f0 : W1.cell? ⟨w1.heap.size, 0, none⟩ = some (.int .i64 k1) := HF1.out.cell 0
    have HTX := Lib.hid (ref7_text A n c l W1 (by simp only [maxLen]; omega) (HLT.out W1 HB1.out))
    have HRN := Lib.hid (fun (W : World) (hb : Below w.heap.size w W) => ref8_run X p.rules Ar nr cr l A n c W hnr (HRU.out W hb) (by simp only [maxLen]; omega) (HLT.out W hb))
    by_cases hk1 : k1 = 0
    · subst hk1
      have HP := Lib.hid (HPR.out.trans (if_neg (fun h => h.1 rfl)))
      have HKX := Lib.hid HK1.out
      have HBX := Lib.hid HB1.out
      have x1 : W1.cell? ⟨w.heap.size, 1, none⟩ = some (.slice Ar nr cr) := HKX.out.cell 1
      go_wp2_with fail
      refine (HRN.out W1 HBX.out).mono ?_
      rintro e w3 ⟨⟨A', n', c', rfl, hr⟩, hb⟩
      have HB := Lib.hid (HBX.out.trans (hb.mono HBX.out.size))
      have hzb := HBX.out.size
      obtain ⟨⟨x, st, pt⟩, f1, f2, ho⟩ : ∃ o f1 f2, runRefP p.rules l = (o, (f1, f2)) := ⟨_, _, _, rfl⟩
      have HPP := Lib.hid (show passR p l = (x, f1) by rw [HP.out, ho])
      rw [ho] at hr ⊢
      dsimp only at hr ⊢
      have hba := (((Below.refl w3.heap.size w3).alloc (Nat.le_refl _) (.cells #[.slice A' n' c', .int .i64 st, .int .i64 pt] 25)).alloc (by simp) (.cells #[.int .i64 f1, .int .i64 f2] 28))
      have HR := Lib.hid ((hr.keep (X' := fun b => w.heap.size ≤ b) (Keeps.below (Below.refl w3.heap.size w3) (fun b h _ => Nat.le_trans hzb h))).keep (Keeps.any hba))
      have HBF := Lib.hid (HB.out.trans (hba.mono HB.out.size))
      clear hr hb hba ho
      go_wp2_with fail
      go_quiet (fail)
      go_wp2_with fail
      go_ret2
      rw [HPP.out]
      exact ⟨⟨A', n', c', rfl, HR.out⟩, below_drewN HBF.out nq⟩
    · go_wp2_with fail
      refine HTX.out.mono ?_
      rintro e w2 ⟨rfl, hb2⟩
      have HKX := Lib.hid (Blk.below HK1.out hb2 HK1.out.lt)
      have HFX := Lib.hid (Blk.below HF1.out hb2 HF1.out.lt)
      have HBX := Lib.hid (HB1.out.trans (hb2.mono HB1.out.size))
      clear hb2 HTX f0
      have f0 : w2.cell? ⟨w1.heap.size, 0, none⟩ = some (.int .i64 k1) := HFX.out.cell 0
      obtain ⟨tp, htp⟩ : ∃ tp, textP l = tp := ⟨_, rfl⟩
      rw [htp] at HPR ⊢
      clear htp
      by_cases ht : tp = 0
      · subst ht
        have HP := Lib.hid (HPR.out.trans (if_pos ⟨hk1, rfl⟩))
        go_wp2_with fail
        go_quiet (fail)
        go_wp2_with fail
        go_ret2
        rw [HP.out]
        exact ⟨⟨none, 0, 0, rfl, ⟨rfl, fun h => absurd h (Nat.lt_irrefl 0)⟩⟩, below_drewN HBX.out nq⟩
      · have HP := Lib.hid (HPR.out.trans (if_neg (fun h => ht h.2)))
        have ht2 : ((tp : Int) == 0) = false := beq_eq_false_iff_ne.2 ht
        have x1 : w2.cell? ⟨w.heap.size, 1, none⟩ = some (.slice Ar nr cr) := HKX.out.cell 1
        go_wp2_with fail
        refine (HRN.out w2 HBX.out).mono ?_
        rintro e w3 ⟨⟨A', n', c', rfl, hr⟩, hb⟩
        have HB := Lib.hid (HBX.out.trans (hb.mono HBX.out.size))
        have hzb := HBX.out.size
        obtain ⟨⟨x, st, pt⟩, f1, f2, ho⟩ : ∃ o f1 f2, runRefP p.rules l = (o, (f1, f2)) := ⟨_, _, _, rfl⟩
        have HPP := Lib.hid (show passR p l = (x, f1) by rw [HP.out, ho])
        rw [ho] at hr ⊢
        dsimp only at hr ⊢
        have hba := (((Below.refl w3.heap.size w3).alloc (Nat.le_refl _) (.cells #[.slice A' n' c', .int .i64 st, .int .i64 pt] 25)).alloc (by simp) (.cells #[.int .i64 f1, .int .i64 f2] 28))
        have HR := Lib.hid ((hr.keep (X' := fun b => w.heap.size ≤ b) (Keeps.below (Below.refl w3.heap.size w3) (fun b h _ => Nat.le_trans hzb h))).keep (Keeps.any hba))
        have HBF := Lib.hid (HB.out.trans (hba.mono HB.out.size))
        clear hr hb hba ho
        go_wp2_with fail
        go_quiet (fail)
        go_wp2_with fail
        go_ret2
        rw [HPP.out]
        exact ⟨⟨A', n', c', rfl, HR.out⟩, below_drewN HBF.out nq⟩

end Go.Proofs.Ytfmebbnccjaadaa

/- Pieces: runs of runes that are meant, and others one by one, plain and in memory: rows that the call owns, no two alike. The walk of scriptref13.Pieces. -/
namespace Go.Proofs.Ytfmebbnccjaadaa
open Go.RowKit

abbrev Pc := List Int × Bool
def lastIn (acc : List Pc) : Bool := match acc.getLast? with | some p => p.2 | none => false
def extL (acc : List Pc) (x : Int) : List Pc := match acc.getLast? with | some p => acc.dropLast ++ [(p.1 ++ [x], p.2)] | none => []
def pushP (s : ScriptD) (acc : List Pc) (x : Int) : List Pc := if meant s x = true ∧ lastIn acc = true then extL acc x else acc ++ [([x], meant s x)]
def piecesP (s : ScriptD) (t : List Int) : List Pc := t.foldl (pushP s) []
theorem lastIn_snoc (a : List Pc) (p : Pc) : lastIn (a ++ [p]) = p.2 := by unfold lastIn; simp
theorem extL_snoc (a : List Pc) (p : Pc) (x : Int) : extL (a ++ [p]) x = a ++ [(p.1 ++ [x], p.2)] := by unfold extL; simp
theorem pushP_ext {s : ScriptD} {a : List Pc} {pc : List Int} {x : Int} (h : meant s x = true) : pushP s (a ++ [(pc, true)]) x = a ++ [(pc ++ [x], true)] := by
  rw [pushP, if_pos ⟨h, by rw [lastIn_snoc]⟩, extL_snoc]
theorem pushP_new {s : ScriptD} {a : List Pc} {x : Int} {b : Bool} (hb : meant s x = b) (h : ¬ (b = true ∧ lastIn a = true)) : pushP s a x = a ++ [([x], b)] := by
  rw [pushP, hb, if_neg h]
theorem pieces_succ {s : ScriptD} {t : List Int} {k : Nat} {x : Int} (h : t[k]? = some x) : (t.take (k + 1)).foldl (pushP s) [] = pushP s ((t.take k).foldl (pushP s) []) x := by
  rw [List.take_add_one, h, List.foldl_append]
  rfl

/-- The pieces so far: v6 is the row of slices, v7 the row of bools; each piece is a row of its own. -/
structure PcSt (lo : Nat) (v6 v7 : Value) (acc : List Pc) (m : Nat) (us : List Value) (w : World) : Prop where
  o6 : w.ownsRow lo 23 1 v6 m us
  o7 : w.ownsRow lo 4 1 v7 m (acc.map fun p => .bool p.2)
  len : acc.length = m
  own : ∀ (i : Nat) (p : Pc) (u : Value), acc[i]? = some p → us[i]? = some u → w.ownsRow lo 21 1 u p.1.length (runeCells p.1)
  blk : ∀ (i : Nat) (u : Value), us[i]? = some u → ∃ g, u.ownBlock = some g
  ne : ∀ (i j : Nat) (u u' : Value), i < j → us[i]? = some u → us[j]? = some u' → u.ownBlock ≠ u'.ownBlock
theorem PcSt.ul {lo : Nat} {v6 v7 : Value} {acc : List Pc} {m : Nat} {us : List Value} {w : World} (h : PcSt lo v6 v7 acc m us w) : us.length = m := by have := h.o6.1; omega
theorem PcSt.go {lo : Nat} {v6 v7 : Value} {acc : List Pc} {m : Nat} {us : List Value} {w w' : World} (h : PcSt lo v6 v7 acc m us w) (hb : Below w.heap.size w w') : PcSt lo v6 v7 acc m us w' :=
  ⟨own_below h.o6 hb, own_below h.o7 hb, h.len, fun i p u h1 h2 => own_below (h.own i p u h1 h2) hb, h.blk, h.ne⟩
theorem own_one (w : World) (lo : Nat) (u : Value) (T : TypeId) (hlo : lo ≤ w.heap.size) : (w.alloc (.cells #[u] T)).ownsRow lo T 1 (.slice (some ⟨w.heap.size, 0, none⟩) 1 1) 1 [u] :=
  ⟨rfl, .inr ⟨w.heap.size, 1, #[u], rfl, hlo, heap_alloc_new w _, Nat.le_refl _, by simp [maxLen], rfl, rfl⟩⟩
theorem get_snoc {α : Type} {l : List α} {x y : α} {i : Nat} (h : (l ++ [x])[i]? = some y) : (i < l.length ∧ l[i]? = some y) ∨ (i = l.length ∧ y = x) := by
  rcases Nat.lt_or_ge i l.length with hi | hi
  · rw [List.getElem?_append_left hi] at h
    exact .inl ⟨hi, h⟩
  · rw [List.getElem?_append_right hi] at h
    have h0 : i - l.length = 0 := by
      have := (List.getElem?_eq_some_iff.1 h).1
      simp at this
      omega
    rw [h0] at h
    simp at h
    exact .inr ⟨by omega, h.symm⟩
/-- A new piece: its row, then the row of slices, then the row of bools. -/
theorem PcSt.push {lo : Nat} {v6 v7 v6' : Value} {acc : List Pc} {m : Nat} {us : List Value} {w w2 : World} (h : PcSt lo v6 v7 acc m us w) (hlo : lo ≤ w.heap.size) {x : Int} {b : Bool}
    (happ : Appended lo 23 1 v6 ((w.alloc (.cells #[.int .i32 x] 21)).alloc (.cells #[.slice (some ⟨w.heap.size, 0, none⟩) 1 1] 23)) (m + 1) (us ++ [.slice (some ⟨w.heap.size, 0, none⟩) 1 1]) v6' w2)
    {w3 : World} (hb3 : Below w2.heap.size w2 w3) {v7' : Value} {w4 : World} (happ7 : Appended lo 4 1 v7 w3 (m + 1) ((acc.map fun p => .bool p.2) ++ [.bool b]) v7' w4) :
    PcSt lo v6' v7' (acc ++ [([x], b)]) (m + 1) (us ++ [.slice (some ⟨w.heap.size, 0, none⟩) 1 1]) w4 := by
  have hba := ((Below.refl w.heap.size w).alloc (Nat.le_refl _) (.cells #[.int .i32 x] 21)).alloc (by simp) (.cells #[.slice (some ⟨w.heap.size, 0, none⟩) 1 1] 23)
  have h1 := h.go hba
  have hnew : ((w.alloc (.cells #[.int .i32 x] 21)).alloc (.cells #[.slice (some ⟨w.heap.size, 0, none⟩) 1 1] 23)).ownsRow lo 21 1 (.slice (some ⟨w.heap.size, 0, none⟩) 1 1) 1 (runeCells [x]) :=
    World.ownsRow.alloc (own_one w lo (.int .i32 x) 21 hlo) _
  have ho7 : w3.ownsRow lo 4 1 v7 m (acc.map fun p => .bool p.2) := own_below (own_kept_other h1.o7 h1.o6 (by decide) happ) hb3
  refine ⟨?_, ?_, by simp [h.len], ?_, ?_, ?_⟩
  · exact own_kept_other (own_below happ.own hb3) ho7 (by decide) happ7
  · rw [List.map_append]
    exact happ7.own
  · intro i p u hp hu
    rcases get_snoc hp with ⟨hi, hp⟩ | ⟨hi, rfl⟩
    · rcases get_snoc hu with ⟨_, hu⟩ | ⟨hj, _⟩
      · exact own_kept_other (own_below (own_kept_other (h1.own i p u hp hu) h1.o6 (by decide) happ) hb3) ho7 (by decide) happ7
      · have := h.len; have := h.ul; omega
    · rcases get_snoc hu with ⟨hj, _⟩ | ⟨_, rfl⟩
      · have := h.len; have := h.ul; omega
      · exact own_kept_other (own_below (own_kept_other hnew h1.o6 (by decide) happ) hb3) ho7 (by decide) happ7
  · intro i u hu
    rcases get_snoc hu with ⟨_, hu⟩ | ⟨_, rfl⟩
    · exact h.blk i u hu
    · exact ⟨_, rfl⟩
  · intro i j u u' hij hu hu'
    rcases get_snoc hu' with ⟨hj, hu'⟩ | ⟨hj, rfl⟩
    · rcases get_snoc hu with ⟨_, hu⟩ | ⟨hi, _⟩
      · exact h.ne i j u u' hij hu hu'
      · omega
    · rcases get_snoc hu with ⟨_, hu⟩ | ⟨hi, _⟩
      · obtain ⟨g, hg⟩ := h.blk i u hu
        have hi : i < acc.length := by have := h.len; have := h.ul; have := (List.getElem?_eq_some_iff.1 hu).1; omega
        have := (Go.Proofs.Ytfmebbnccjaadaa.own_lt (h.own i _ u (List.getElem?_eq_getElem hi) hu) hg).2
        rw [hg]
        simp only [Value.ownBlock, ne_eq, Option.some.injEq]
        omega
      · omega
/-- The last piece grows. -/
theorem PcSt.ext {lo : Nat} {v7 : Value} {a : List Pc} {m n c6 g6 : Nat} {us : List Value} {w w2 : World} {pc : List Int} {b : Bool} {u u' : Value} {x : Int} (h : PcSt lo (.slice (some ⟨g6, 0, none⟩) (m + 1) c6) v7 (a ++ [(pc, b)]) (m + 1) (us ++ [u]) w)
    (hm : us.length = m) (hn : pc.length = n) (happ : Appended lo 21 1 u w (n + 1) (runeCells pc ++ runeCells [x]) u' w2) :
    PcSt lo (.slice (some ⟨g6, 0, none⟩) (m + 1) c6) v7 (a ++ [(pc ++ [x], b)]) (m + 1) (us ++ [u']) (w2.setCell ⟨g6, m, none⟩ u') ∧ w2.cell? ⟨g6, m, none⟩ = some u ∧ w2.frozen? ⟨g6, m, none⟩ = false := by
  have hal : a.length = m := by have := h.len; simp at this; omega
  have hu : (us ++ [u])[m]? = some u := by rw [List.getElem?_append_right (by omega), hm]; simp
  have hp : (a ++ [(pc, b)])[m]? = some (pc, b) := by rw [List.getElem?_append_right (by omega), hal]; simp
  have how := h.own m _ u hp hu
  have o6 := own_kept_other h.o6 how (by decide) happ
  have o7 := own_kept_other h.o7 how (by decide) happ
  have hst := o6.stored m u'
  rw [show (us ++ [u]).set m u' = us ++ [u'] by rw [List.set_append_right _ _ (by omega), hm]; simp] at hst
  obtain ⟨g, hg⟩ := h.blk m u hu
  have hg' : ∃ g', u'.ownBlock = some g' ∧ (g' = g ∨ g' = w.heap.size) := by
    rcases happ.2.2 with e | e
    · exact ⟨g, e.trans hg, .inl rfl⟩
    · exact ⟨_, e, .inr rfl⟩
  have ne6 : ∀ (v : Value) (k : Nat) (xs : List Value), w2.ownsRow lo 21 1 v k xs → v.ownBlock ≠ some g6 := by
    intro v k xs hv
    rcases ne_of_types hv o6 (by decide) with e | e
    · exact e
    · rw [e]; simp
  refine ⟨⟨hst.1, ?_, by simp [hal], ?_, ?_, ?_⟩, ?_, o6.frozenAt m⟩
  · refine ownsRow_setCell_other ?_ ?_ u'
    · simpa using o7
    · rcases ne_of_types o7 o6 (by decide) with e | e
      · exact e
      · rw [e]; simp
  · intro i p v hp' hv
    rcases get_snoc hp' with ⟨hi, hp'⟩ | ⟨hi, rfl⟩
    · rcases get_snoc hv with ⟨_, hv⟩ | ⟨hj, _⟩
      · have hv2 : (us ++ [u])[i]? = some v := by rw [List.getElem?_append_left (by omega)]; exact hv
        have h0 := h.own i p v (by rw [List.getElem?_append_left hi]; exact hp') hv2
        have h1 : w2.ownsRow lo 21 1 v p.1.length (runeCells p.1) := World.ownsRow.kept h0 happ.2.1 (.inr (h.ne i m v u (by omega) hv2 hu))
        exact ownsRow_setCell_other h1 (ne6 _ _ _ h1) u'
      · omega
    · rcases get_snoc hv with ⟨hj, _⟩ | ⟨_, rfl⟩
      · omega
      · have h1 : w2.ownsRow lo 21 1 v (pc ++ [x]).length (runeCells (pc ++ [x])) := by
          rw [runeCells_append, List.length_append, hn]
          exact happ.own
        exact ownsRow_setCell_other h1 (ne6 _ _ _ h1) v
  · intro i v hv
    rcases get_snoc hv with ⟨hi, hv⟩ | ⟨_, rfl⟩
    · exact h.blk i v (by rw [List.getElem?_append_left hi]; exact hv)
    · obtain ⟨g', e, _⟩ := hg'
      exact ⟨g', e⟩
  · intro i j v v' hij hv hv'
    rcases get_snoc hv' with ⟨hj, hv'⟩ | ⟨hj, rfl⟩
    · rcases get_snoc hv with ⟨hi, hv⟩ | ⟨hi, _⟩
      · exact h.ne i j v v' hij (by rw [List.getElem?_append_left hi]; exact hv) (by rw [List.getElem?_append_left hj]; exact hv')
      · omega
    · rcases get_snoc hv with ⟨hi, hv⟩ | ⟨hi, _⟩
      · have hv2 : (us ++ [u])[i]? = some v := by rw [List.getElem?_append_left hi]; exact hv
        obtain ⟨g', e, hg2⟩ := hg'
        rcases hg2 with rfl | rfl
        · rw [e, ← hg]
          exact h.ne i m v u (by omega) hv2 hu
        · obtain ⟨gi, hgi⟩ := h.blk i v hv2
          have hi2 : i < (a ++ [(pc, b)]).length := by simp; omega
          have := (Go.Proofs.Ytfmebbnccjaadaa.own_lt (h.own i _ v (List.getElem?_eq_getElem hi2) hv2) hgi).2
          rw [hgi, e]
          simp only [ne_eq, Option.some.injEq]
          omega
      · omega
  · rw [o6.cellAt m (by omega)]
    exact hu

end Go.Proofs.Ytfmebbnccjaadaa

/- The walk of scriptref13.Pieces: it tells piecesP. -/
namespace Go.Proofs.Ytfmebbnccjaadaa
open Go.RowKit

theorem infoRunesE : (Try.prog.info? 23).map (fun i => (i.zero, i.size, i.bytes)) = some (some (.slice none 0 0), 1, 24) := by kernel_rfl
theorem infoBoolE : (Try.prog.info? 4).map (fun i => (i.zero, i.size, i.bytes)) = some (some (.bool false), 1, 1) := by kernel_rfl
def PieRel (w : World) (s : ScriptD) (t : List Int) (cs : Array Value) (nt : Nat) (v6 v7 i : Value) (wr : World) : Prop :=
  ∃ (k m : Nat) (us : List Value), k ≤ nt ∧ i = .int .i64 k ∧ m ≤ k ∧ PcSt w.heap.size v6 v7 ((t.take k).foldl (pushP s) []) m us wr ∧ (∀ p ∈ (t.take k).foldl (pushP s) [], p.1.length ≤ k) ∧ Blk wr w.heap.size 51 cs ∧ Below w.heap.size w wr
theorem len_snoc {a : List Pc} {p : Pc} {k : Nat} (h : ∀ q ∈ a, q.1.length ≤ k) (hp : p.1.length ≤ k + 1) : ∀ q ∈ a ++ [p], q.1.length ≤ k + 1 := by
  intro q hq
  rcases List.mem_append.1 hq with hq | hq
  · have := h q hq; omega
  · simp at hq; subst hq; exact hp
theorem bools_one (acc : List Pc) : ∀ u ∈ (acc.map fun p => Value.bool p.2), u.oneCell' = true := by
  intro u hu
  obtain ⟨p, _, rfl⟩ := List.mem_map.1 hu
  rfl

set_option maxRecDepth 100000 in
set_option maxHeartbeats 6400000 in
theorem ref13_pieces (X : Nat → Prop) (s : ScriptD) (t : List Int) (A1 A2 At : Option Addr) (n1 c1 n2 c2 nt ct : Nat) (w : World) (hs : ScriptAt w X s A1 n1 A2 n2) (hnt : nt ≤ 4000) (ht : RdR w w.heap.size At nt t) :
    Calls Try.prog 56 #[.agg #[.bool s.only?, .slice A1 n1 c1, .slice A2 n2 c2], .slice At nt ct] w fun e w' => (∃ v6 v7 m us, e = .returned (.tuple #[v6, v7]) ∧ PcSt w.heap.size v6 v7 (piecesP s t) m us w' ∧ m ≤ nt ∧ ∀ p ∈ piecesP s t, p.1.length ≤ nt) ∧ Below w.heap.size w w' := by
  obtain ⟨i0, hi, z0, z1, z2⟩ := info_parts Try.info21
  obtain ⟨i1, hi1, y0, y1, y2⟩ := info_parts infoRunesE
  obtain ⟨i2, hi2, x0, x1, x2⟩ := info_parts infoBoolE
  have htl := ht.len
  have hm1 := hs.m1
  have HSA := Lib.hid (fun (W : World) (hb : Below w.heap.size w W) => show ScriptAt W X s A1 n1 A2 n2 from hs.keep (Keeps.any hb))
  have HTW := Lib.hid ht
  simp only [maxLen] at hm1
  generalize hcs : (#[.bool s.only?, .slice A1 n1 c1, .slice A2 n2 c2] : Array Value) = cs
  have HCS := Lib.hid (show cs[0]? = some (.bool s.only?) ∧ cs[1]? = some (.slice A1 n1 c1) by subst hcs; exact ⟨rfl, rfl⟩)
  have HK0 := Lib.hid (Blk.new w 51 cs)
  have HB0 := Lib.hid ((Below.refl w.heap.size w).alloc (Nat.le_refl _) (.cells cs 51))
  clear hs ht hcs
  go_enter Try.func56, Try.ntmps56
  go_wp2_with fail
  go_loopw [6, 7, 14] (PieRel w s t cs nt) (fun _ _ i _ => nt - (intOf i).toNat)
  case atStart => exact ⟨0, 0, [], Nat.zero_le _, rfl, Nat.le_refl _, ⟨World.ownsRow_nil _ _ _ _, World.ownsRow_nil _ _ _ _, rfl, by simp, by simp, by simp⟩, by simp, HK0.out, HB0.out⟩
  case round =>
    obtain ⟨k, m, us, hk, rfl, hmk, hst, hpl, hkb, hb⟩ := hrel
    have hz := hb.size
    obtain ⟨A6, c6, rfl, _⟩ := own_form hst.o6
    obtain ⟨A7, c7, rfl, _⟩ := own_form hst.o7
    by_cases hlt : k < nt
    · obtain ⟨x, hx⟩ : ∃ z, t[k]? = some z := ⟨_, List.getElem?_eq_getElem (by omega)⟩
      obtain ⟨b, off, rfl, hbb, c0⟩ := HTW.out.at hlt
      rw [show t.getD k 0 = x by simp [List.getD, hx]] at c0
      have dx := (hb.cell (p := ⟨b, off + k, none⟩) hbb).trans c0
      have HPS := Lib.hid (pieces_succ (s := s) hx)
      have s0 : wr.cell? ⟨w.heap.size, 0, none⟩ = some (.bool s.only?) := (hkb.cell 0).trans HCS.out.1
      have s1 : wr.cell? ⟨w.heap.size, 1, none⟩ = some (.slice A1 n1 c1) := (hkb.cell 1).trans HCS.out.2
      generalize (t.take k).foldl (pushP s) [] = acc at *
      have HST := Lib.hid hst
      have HPL := Lib.hid hpl
      have HK := Lib.hid hkb
      have HB := Lib.hid hb
      clear hx c0 hst hpl hkb hb
      cases ho : s.only?
      · have HMN := Lib.hid (show meant s x = true by unfold meant; rw [ho]; rfl)
        rw [ho] at s0
        clear ho
        go_upto_region 7 with fail
        rcases List.eq_nil_or_concat acc with rfl | ⟨a, ⟨pc, bl⟩, rfl⟩
        · have HM0 := Lib.hid (show m = 0 by have := HST.out.len; simp at this; omega)
          have hd0 : decide ((0 : Int) ≤ (m : Int) - 1) = false := decide_eq_false (by have := HM0.out; omega)
          have hd1 : decide ((1 : Int) ≤ (m : Int)) = false := decide_eq_false (by have := HM0.out; omega)
          have hzW := HB.out.size
          have hl1 := (Below.refl wr.heap.size wr).alloc (Nat.le_refl _) (.cells #[.int .i32 x] 21)
          have hl2 := hl1.alloc (by simp) (.cells #[.slice (some ⟨wr.heap.size, 0, none⟩) 1 1] 23)
          have HS1 := Lib.hid (HST.out.go hl2)
          have HK1 := Lib.hid (Blk.below HK.out hl2 HK.out.lt)
          have HB1 := Lib.hid (HB.out.trans (hl2.mono hzW))
          have HN1 := Lib.hid (show Rd ((wr.alloc (.cells #[.int .i32 x] 21)).alloc (.cells #[.slice (some ⟨wr.heap.size, 0, none⟩) 1 1] 23)) (wr.heap.size + 1 + 1) 1 (some ⟨wr.heap.size + 1, 0, none⟩) 1 [.slice (some ⟨wr.heap.size, 0, none⟩) 1 1] by
            have := Rd.new (wr.alloc (.cells #[.int .i32 x] 21)) 23 1 1 [.slice (some ⟨wr.heap.size, 0, none⟩) 1 1] rfl
            simpa using this)
          have H1C := Lib.hid (show ∀ u ∈ [Value.slice (some ⟨wr.heap.size, 0, none⟩) 1 1], u.oneCell' = true by intro u hu; simp at hu; subst hu; rfl)
          clear hl1 hl2
          go_wp2_with (at_builtin; refine wpList_append_rd _ rfl (.tmp 51) (.tmp 54) 59 rfl w.heap.size 23 i1 _ 1 24 Try.underlying59 hi1 y0 y1 y2 rfl (by decide) _ m _ rfl HS1.out.o6 _ (some ⟨wr.heap.size + 1, 0, none⟩) 1 1 [.slice (some ⟨wr.heap.size, 0, none⟩) 1 1] rfl HN1.out H1C.out (by simp only [maxLen]; omega) (by omega) HB1.out.size ?_)
          intro v6' w2 happ
          have hbp := happ.below HB1.out.size HS1.out.o6
          have ho7 := own_kept_other HS1.out.o7 HS1.out.o6 (by decide) happ
          have hl3 := (Below.refl w2.heap.size w2).alloc (Nat.le_refl _) (.cells #[.bool true] 4)
          have HAP := Lib.hid happ
          have HK2 := Lib.hid (Blk.below (blk_app HK1.out HS1.out.o6 (by decide) happ) hl3 (Nat.lt_of_lt_of_le HK1.out.lt (happ.2.1.size)))
          have HB2 := Lib.hid (HB1.out.trans (hbp.trans (hl3.mono (Nat.le_trans HB1.out.size happ.2.1.size))))
          obtain ⟨bs, hbs⟩ : ∃ bs, ([] : List Pc).map (fun p : Pc => Value.bool p.2) = bs := ⟨_, rfl⟩
          have HBS := Lib.hid hbs
          have HO7 := Lib.hid (show (w2.alloc (.cells #[.bool true] 4)).ownsRow w.heap.size 4 1 (.slice A7 m c7) m bs by rw [← hbs]; exact own_below ho7 hl3)
          have HL3 := Lib.hid hl3
          have HN2 := Lib.hid (Rd.new w2 4 1 1 [.bool true] rfl)
          obtain ⟨A6', c6', rfl, _⟩ := own_form happ.own
          clear happ hbp ho7 hl3 hbs
          go_wp2_with (at_builtin; refine wpList_append_rd _ rfl (.tmp 56) (.tmp 58) 100 rfl w.heap.size 4 i2 _ 1 1 Try.underlying100 hi2 x0 x1 x2 rfl (by decide) _ m _ rfl HO7.out _ (some ⟨w2.heap.size, 0, none⟩) 1 1 [.bool true] rfl HN2.out (by intro u hu; simp at hu; subst hu; rfl) (by simp only [maxLen]; omega) (by omega) HB2.out.size ?_)
          intro v7' w4 happ7
          have hap8 := happ7
          rw [← HBS.out] at hap8
          have HSN := Lib.hid (HST.out.push hzW HAP.out HL3.out hap8)
          have HK4 := Lib.hid (blk_app HK2.out HO7.out (by decide) happ7)
          have HB4 := Lib.hid (HB2.out.trans (happ7.below HB2.out.size HO7.out))
          have HPN := Lib.hid (HPS.out.trans (pushP_new HMN.out (fun h => by have := h.2; simp [lastIn] at this)))
          clear happ7 hap8 HO7 HN2 HL3 HAP HBS
          go_wp2_with fail
          exact ⟨⟨k + 1, m + 1, _, by omega, by go_num, by omega, by rw [HPN.out]; exact HSN.out, by rw [HPN.out]; exact len_snoc HPL.out (by simp), HK4.out, HB4.out⟩, by simp [intOf]; omega⟩
        · rw [List.concat_eq_append] at HST HPS HPL
          obtain ⟨m', rfl⟩ : ∃ m', m = m' + 1 := ⟨a.length, by have := HST.out.len; simp at this; omega⟩
          cases bl
          · obtain ⟨g7, cc7, e7, _, _, _⟩ := own_some HST.out.o7 (by omega)
            cases e7
            have t7 : wr.cell? ⟨g7, m', none⟩ = some (.bool false) := by
              have hal : a.length = m' := by have := HST.out.len; simp at this; omega
              rw [HST.out.o7.cellAt m' (by omega), List.getElem?_map, List.getElem?_append_right (by omega), hal]
              simp
            have hzW := HB.out.size
            have hl1 := (Below.refl wr.heap.size wr).alloc (Nat.le_refl _) (.cells #[.int .i32 x] 21)
            have hl2 := hl1.alloc (by simp) (.cells #[.slice (some ⟨wr.heap.size, 0, none⟩) 1 1] 23)
            have HS1 := Lib.hid (HST.out.go hl2)
            have HK1 := Lib.hid (Blk.below HK.out hl2 HK.out.lt)
            have HB1 := Lib.hid (HB.out.trans (hl2.mono hzW))
            have HN1 := Lib.hid (show Rd ((wr.alloc (.cells #[.int .i32 x] 21)).alloc (.cells #[.slice (some ⟨wr.heap.size, 0, none⟩) 1 1] 23)) (wr.heap.size + 1 + 1) 1 (some ⟨wr.heap.size + 1, 0, none⟩) 1 [.slice (some ⟨wr.heap.size, 0, none⟩) 1 1] by
              have := Rd.new (wr.alloc (.cells #[.int .i32 x] 21)) 23 1 1 [.slice (some ⟨wr.heap.size, 0, none⟩) 1 1] rfl
              simpa using this)
            have H1C := Lib.hid (show ∀ u ∈ [Value.slice (some ⟨wr.heap.size, 0, none⟩) 1 1], u.oneCell' = true by intro u hu; simp at hu; subst hu; rfl)
            clear hl1 hl2
            go_wp2_with (at_builtin; refine wpList_append_rd _ rfl (.tmp 51) (.tmp 54) 59 rfl w.heap.size 23 i1 _ 1 24 Try.underlying59 hi1 y0 y1 y2 rfl (by decide) _ (m' + 1) _ rfl HS1.out.o6 _ (some ⟨wr.heap.size + 1, 0, none⟩) 1 1 [.slice (some ⟨wr.heap.size, 0, none⟩) 1 1] rfl HN1.out H1C.out (by simp only [maxLen]; omega) (by omega) HB1.out.size ?_)
            intro v6' w2 happ
            have hbp := happ.below HB1.out.size HS1.out.o6
            have ho7 := own_kept_other HS1.out.o7 HS1.out.o6 (by decide) happ
            have hl3 := (Below.refl w2.heap.size w2).alloc (Nat.le_refl _) (.cells #[.bool true] 4)
            have HAP := Lib.hid happ
            have HK2 := Lib.hid (Blk.below (blk_app HK1.out HS1.out.o6 (by decide) happ) hl3 (Nat.lt_of_lt_of_le HK1.out.lt (happ.2.1.size)))
            have HB2 := Lib.hid (HB1.out.trans (hbp.trans (hl3.mono (Nat.le_trans HB1.out.size happ.2.1.size))))
            obtain ⟨bs, hbs⟩ : ∃ bs, (a ++ [(pc, false)]).map (fun p : Pc => Value.bool p.2) = bs := ⟨_, rfl⟩
            have HBS := Lib.hid hbs
            have HO7 := Lib.hid (show (w2.alloc (.cells #[.bool true] 4)).ownsRow w.heap.size 4 1 (.slice (some ⟨g7, 0, none⟩) (m' + 1) c7) (m' + 1) bs by rw [← hbs]; exact own_below ho7 hl3)
            have HL3 := Lib.hid hl3
            have HN2 := Lib.hid (Rd.new w2 4 1 1 [.bool true] rfl)
            obtain ⟨A6', c6', rfl, _⟩ := own_form happ.own
            clear happ hbp ho7 hl3 hbs
            go_wp2_with (at_builtin; refine wpList_append_rd _ rfl (.tmp 56) (.tmp 58) 100 rfl w.heap.size 4 i2 _ 1 1 Try.underlying100 hi2 x0 x1 x2 rfl (by decide) _ (m' + 1) _ rfl HO7.out _ (some ⟨w2.heap.size, 0, none⟩) 1 1 [.bool true] rfl HN2.out (by intro u hu; simp at hu; subst hu; rfl) (by simp only [maxLen]; omega) (by omega) HB2.out.size ?_)
            intro v7' w4 happ7
            have hap8 := happ7
            rw [← HBS.out] at hap8
            have HSN := Lib.hid (HST.out.push hzW HAP.out HL3.out hap8)
            have HK4 := Lib.hid (blk_app HK2.out HO7.out (by decide) happ7)
            have HB4 := Lib.hid (HB2.out.trans (happ7.below HB2.out.size HO7.out))
            have HPN := Lib.hid (HPS.out.trans (pushP_new HMN.out (fun h => by have := h.2; rw [lastIn_snoc] at this; cases this)))
            clear happ7 hap8 HO7 HN2 HL3 HAP HBS
            go_wp2_with fail
            exact ⟨⟨k + 1, m' + 1 + 1, _, by omega, by go_num, by omega, by rw [HPN.out]; exact HSN.out, by rw [HPN.out]; exact len_snoc HPL.out (by simp), HK4.out, HB4.out⟩, by simp [intOf]; omega⟩
          · have hzW := HB.out.size
            obtain ⟨g6, cc6, e6, _, _, _⟩ := own_some HST.out.o6 (by omega)
            cases e6
            obtain ⟨g7, cc7, e7, _, _, _⟩ := own_some HST.out.o7 (by omega)
            cases e7
            obtain ⟨us0, u, rfl⟩ : ∃ us0 u, us = us0 ++ [u] := by
              rcases List.eq_nil_or_concat us with e | ⟨us0, u, e⟩
              · have := HST.out.ul; rw [e] at this; simp at this
              · exact ⟨us0, u, by rw [e, List.concat_eq_append]⟩
            have hul : us0.length = m' := by have := HST.out.ul; simp at this; omega
            have hal : a.length = m' := by have := HST.out.len; simp at this; omega
            have hu : (us0 ++ [u])[m']? = some u := by rw [List.getElem?_append_right (by omega), hul]; simp
            have hp : (a ++ [(pc, true)])[m']? = some (pc, true) := by rw [List.getElem?_append_right (by omega), hal]; simp
            have how := HST.out.own m' _ u hp hu
            obtain ⟨gu, hgu⟩ := HST.out.blk m' u hu
            obtain ⟨cu, rfl, _⟩ := own_blk how hgu
            have HLP := Lib.hid (show pc.length ≤ 1000000 by have := HPL.out (pc, true) (by simp); simp only at this; omega)
            have t6 : wr.cell? ⟨g6, m', none⟩ = some (.slice (some ⟨gu, 0, none⟩) pc.length cu) := by rw [HST.out.o6.cellAt m' (by omega)]; exact hu
            have t7 : wr.cell? ⟨g7, m', none⟩ = some (.bool true) := by rw [HST.out.o7.cellAt m' (by omega), List.getElem?_map, hp]; rfl
            have hl1 := (Below.refl wr.heap.size wr).alloc (Nat.le_refl _) (.cells #[.int .i32 x] 21)
            have HS1 := Lib.hid (HST.out.go hl1)
            have HK1 := Lib.hid (Blk.below HK.out hl1 HK.out.lt)
            have HB1 := Lib.hid (HB.out.trans (hl1.mono hzW))
            have HOW := Lib.hid (own_below how hl1)
            have HN1 := Lib.hid (Rd.new wr 21 1 1 [.int .i32 x] rfl)
            obtain ⟨n, hn⟩ : ∃ n, pc.length = n := ⟨_, rfl⟩
            rw [hn] at t6 HOW HLP
            clear hl1 how hgu hu hp
            have hn1 := HLP.out
            go_wp2_with (at_builtin; refine wpList_append_rd _ rfl (.tmp 46) (.tmp 48) 23 rfl w.heap.size 21 i0 _ 1 4 Try.underlying23 hi z0 z1 z2 rfl (by decide) _ n _ rfl HOW.out _ (some ⟨wr.heap.size, 0, none⟩) 1 1 (runeCells [x]) rfl HN1.out (runeCells_one _) (by simp only [maxLen]; omega) (by omega) HB1.out.size ?_)
            intro u' w2 happ
            obtain ⟨hsn, q6, f6⟩ := HS1.out.ext hul hn happ
            have HSN := Lib.hid hsn
            have hb2 := happ.below HB1.out.size HOW.out
            have hK2 := blk_app HK1.out HOW.out (by decide) happ
            have hg6 : g6 ≠ w.heap.size := fun e => own_ne_blk' HS1.out.o6 HK1.out (by decide) (by rw [e]; rfl)
            obtain ⟨Au, cu', rfl, _⟩ := own_form happ.own
            have HK3 := Lib.hid ((Below.heap_setCell w2 ⟨g6, m', none⟩ (.slice Au (n + 1) cu') w.heap.size (fun e => hg6 e.symm)).trans hK2)
            have HB3 := Lib.hid ((HB1.out.trans hb2).setCell (p := ⟨g6, m', none⟩) (by have := (own_lt hsn.o6 rfl).1; exact this) (.slice Au (n + 1) cu'))
            have HPN := Lib.hid (HPS.out.trans (pushP_ext HMN.out))
            clear happ hsn hb2 hK2
            go_wp2_with fail
            exact ⟨⟨k + 1, m' + 1, _, by omega, by go_num, by omega, by rw [HPN.out]; exact HSN.out, by rw [HPN.out]; exact len_snoc (fun p hp => HPL.out p (List.mem_append_left _ hp)) (by have := HPL.out (pc, true) (by simp); simp only [List.length_append, List.length_cons, List.length_nil] at this ⊢; omega), HK3.out, HB3.out⟩, by simp [intOf]; omega⟩
      · have HHS := Lib.hid (ref2_has A1 n1 c1 s.only x wr (by omega) (RdX.of (HSA.out wr HB.out).only))
        rw [ho] at s0
        have HMX := Lib.hid (show meant s x = hasP s.only x by unfold meant; rw [ho]; rfl)
        clear ho
        go_upto_region 6 with fail
        go_wp2_with fail
        refine HHS.out.mono ?_
        rintro e w1 ⟨rfl, hb1⟩
        have HST := Lib.hid (HST.out.go hb1)
        have HK := Lib.hid (Blk.below HK.out hb1 HK.out.lt)
        have hzz := hb1.size
        have HB := Lib.hid (HB.out.trans (hb1.mono HB.out.size))
        clear hb1 HHS
        cases hh : hasP s.only x
        · have HMN := Lib.hid (HMX.out.trans hh)
          clear hh
          have hzW := HB.out.size
          have hl1 := (Below.refl w1.heap.size w1).alloc (Nat.le_refl _) (.cells #[.int .i32 x] 21)
          have hl2 := hl1.alloc (by simp) (.cells #[.slice (some ⟨w1.heap.size, 0, none⟩) 1 1] 23)
          have HS1 := Lib.hid (HST.out.go hl2)
          have HK1 := Lib.hid (Blk.below HK.out hl2 HK.out.lt)
          have HB1 := Lib.hid (HB.out.trans (hl2.mono hzW))
          have HN1 := Lib.hid (show Rd ((w1.alloc (.cells #[.int .i32 x] 21)).alloc (.cells #[.slice (some ⟨w1.heap.size, 0, none⟩) 1 1] 23)) (w1.heap.size + 1 + 1) 1 (some ⟨w1.heap.size + 1, 0, none⟩) 1 [.slice (some ⟨w1.heap.size, 0, none⟩) 1 1] by
            have := Rd.new (w1.alloc (.cells #[.int .i32 x] 21)) 23 1 1 [.slice (some ⟨w1.heap.size, 0, none⟩) 1 1] rfl
            simpa using this)
          have H1C := Lib.hid (show ∀ u ∈ [Value.slice (some ⟨w1.heap.size, 0, none⟩) 1 1], u.oneCell' = true by intro u hu; simp at hu; subst hu; rfl)
          clear hl1 hl2
          go_wp2_with (at_builtin; refine wpList_append_rd _ rfl (.tmp 51) (.tmp 54) 59 rfl w.heap.size 23 i1 _ 1 24 Try.underlying59 hi1 y0 y1 y2 rfl (by decide) _ m _ rfl HS1.out.o6 _ (some ⟨w1.heap.size + 1, 0, none⟩) 1 1 [.slice (some ⟨w1.heap.size, 0, none⟩) 1 1] rfl HN1.out H1C.out (by simp only [maxLen]; omega) (by omega) HB1.out.size ?_)
          intro v6' w2 happ
          have hbp := happ.below HB1.out.size HS1.out.o6
          have ho7 := own_kept_other HS1.out.o7 HS1.out.o6 (by decide) happ
          have hl3 := (Below.refl w2.heap.size w2).alloc (Nat.le_refl _) (.cells #[.bool false] 4)
          have HAP := Lib.hid happ
          have HK2 := Lib.hid (Blk.below (blk_app HK1.out HS1.out.o6 (by decide) happ) hl3 (Nat.lt_of_lt_of_le HK1.out.lt (happ.2.1.size)))
          have HB2 := Lib.hid (HB1.out.trans (hbp.trans (hl3.mono (Nat.le_trans HB1.out.size happ.2.1.size))))
          obtain ⟨bs, hbs⟩ : ∃ bs, acc.map (fun p : Pc => Value.bool p.2) = bs := ⟨_, rfl⟩
          have HBS := Lib.hid hbs
          have HO7 := Lib.hid (show (w2.alloc (.cells #[.bool false] 4)).ownsRow w.heap.size 4 1 (.slice A7 m c7) m bs by rw [← hbs]; exact own_below ho7 hl3)
          have HL3 := Lib.hid hl3
          have HN2 := Lib.hid (Rd.new w2 4 1 1 [.bool false] rfl)
          obtain ⟨A6', c6', rfl, _⟩ := own_form happ.own
          clear happ hbp ho7 hl3 hbs
          go_wp2_with (at_builtin; refine wpList_append_rd _ rfl (.tmp 56) (.tmp 58) 100 rfl w.heap.size 4 i2 _ 1 1 Try.underlying100 hi2 x0 x1 x2 rfl (by decide) _ m _ rfl HO7.out _ (some ⟨w2.heap.size, 0, none⟩) 1 1 [.bool false] rfl HN2.out (by intro u hu; simp at hu; subst hu; rfl) (by simp only [maxLen]; omega) (by omega) HB2.out.size ?_)
          intro v7' w4 happ7
          have hap8 := happ7
          rw [← HBS.out] at hap8
          have HSN := Lib.hid (HST.out.push hzW HAP.out HL3.out hap8)
          have HK4 := Lib.hid (blk_app HK2.out HO7.out (by decide) happ7)
          have HB4 := Lib.hid (HB2.out.trans (happ7.below HB2.out.size HO7.out))
          have HPN := Lib.hid (HPS.out.trans (pushP_new HMN.out (fun h => by cases h.1)))
          clear happ7 hap8 HO7 HN2 HL3 HAP HBS
          go_wp2_with fail
          exact ⟨⟨k + 1, m + 1, _, by omega, by go_num, by omega, by rw [HPN.out]; exact HSN.out, by rw [HPN.out]; exact len_snoc HPL.out (by simp), HK4.out, HB4.out⟩, by simp [intOf]; omega⟩
        · have HMN := Lib.hid (HMX.out.trans hh)
          clear hh
          rcases List.eq_nil_or_concat acc with rfl | ⟨a, ⟨pc, bl⟩, rfl⟩
          · have HM0 := Lib.hid (show m = 0 by have := HST.out.len; simp at this; omega)
            have hd0 : decide ((0 : Int) ≤ (m : Int) - 1) = false := decide_eq_false (by have := HM0.out; omega)
            have hd1 : decide ((1 : Int) ≤ (m : Int)) = false := decide_eq_false (by have := HM0.out; omega)
            have hzW := HB.out.size
            have hl1 := (Below.refl w1.heap.size w1).alloc (Nat.le_refl _) (.cells #[.int .i32 x] 21)
            have hl2 := hl1.alloc (by simp) (.cells #[.slice (some ⟨w1.heap.size, 0, none⟩) 1 1] 23)
            have HS1 := Lib.hid (HST.out.go hl2)
            have HK1 := Lib.hid (Blk.below HK.out hl2 HK.out.lt)
            have HB1 := Lib.hid (HB.out.trans (hl2.mono hzW))
            have HN1 := Lib.hid (show Rd ((w1.alloc (.cells #[.int .i32 x] 21)).alloc (.cells #[.slice (some ⟨w1.heap.size, 0, none⟩) 1 1] 23)) (w1.heap.size + 1 + 1) 1 (some ⟨w1.heap.size + 1, 0, none⟩) 1 [.slice (some ⟨w1.heap.size, 0, none⟩) 1 1] by
              have := Rd.new (w1.alloc (.cells #[.int .i32 x] 21)) 23 1 1 [.slice (some ⟨w1.heap.size, 0, none⟩) 1 1] rfl
              simpa using this)
            have H1C := Lib.hid (show ∀ u ∈ [Value.slice (some ⟨w1.heap.size, 0, none⟩) 1 1], u.oneCell' = true by intro u hu; simp at hu; subst hu; rfl)
            clear hl1 hl2
            go_wp2_with (at_builtin; refine wpList_append_rd _ rfl (.tmp 51) (.tmp 54) 59 rfl w.heap.size 23 i1 _ 1 24 Try.underlying59 hi1 y0 y1 y2 rfl (by decide) _ m _ rfl HS1.out.o6 _ (some ⟨w1.heap.size + 1, 0, none⟩) 1 1 [.slice (some ⟨w1.heap.size, 0, none⟩) 1 1] rfl HN1.out H1C.out (by simp only [maxLen]; omega) (by omega) HB1.out.size ?_)
            intro v6' w2 happ
            have hbp := happ.below HB1.out.size HS1.out.o6
            have ho7 := own_kept_other HS1.out.o7 HS1.out.o6 (by decide) happ
            have hl3 := (Below.refl w2.heap.size w2).alloc (Nat.le_refl _) (.cells #[.bool true] 4)
            have HAP := Lib.hid happ
            have HK2 := Lib.hid (Blk.below (blk_app HK1.out HS1.out.o6 (by decide) happ) hl3 (Nat.lt_of_lt_of_le HK1.out.lt (happ.2.1.size)))
            have HB2 := Lib.hid (HB1.out.trans (hbp.trans (hl3.mono (Nat.le_trans HB1.out.size happ.2.1.size))))
            obtain ⟨bs, hbs⟩ : ∃ bs, ([] : List Pc).map (fun p : Pc => Value.bool p.2) = bs := ⟨_, rfl⟩
            have HBS := Lib.hid hbs
            have HO7 := Lib.hid (show (w2.alloc (.cells #[.bool true] 4)).ownsRow w.heap.size 4 1 (.slice A7 m c7) m bs by rw [← hbs]; exact own_below ho7 hl3)
            have HL3 := Lib.hid hl3
            have HN2 := Lib.hid (Rd.new w2 4 1 1 [.bool true] rfl)
            obtain ⟨A6', c6', rfl, _⟩ := own_form happ.own
            clear happ hbp ho7 hl3 hbs
            go_wp2_with (at_builtin; refine wpList_append_rd _ rfl (.tmp 56) (.tmp 58) 100 rfl w.heap.size 4 i2 _ 1 1 Try.underlying100 hi2 x0 x1 x2 rfl (by decide) _ m _ rfl HO7.out _ (some ⟨w2.heap.size, 0, none⟩) 1 1 [.bool true] rfl HN2.out (by intro u hu; simp at hu; subst hu; rfl) (by simp only [maxLen]; omega) (by omega) HB2.out.size ?_)
            intro v7' w4 happ7
            have hap8 := happ7
            rw [← HBS.out] at hap8
            have HSN := Lib.hid (HST.out.push hzW HAP.out HL3.out hap8)
            have HK4 := Lib.hid (blk_app HK2.out HO7.out (by decide) happ7)
            have HB4 := Lib.hid (HB2.out.trans (happ7.below HB2.out.size HO7.out))
            have HPN := Lib.hid (HPS.out.trans (pushP_new HMN.out (fun h => by have := h.2; simp [lastIn] at this)))
            clear happ7 hap8 HO7 HN2 HL3 HAP HBS
            go_wp2_with fail
            exact ⟨⟨k + 1, m + 1, _, by omega, by go_num, by omega, by rw [HPN.out]; exact HSN.out, by rw [HPN.out]; exact len_snoc HPL.out (by simp), HK4.out, HB4.out⟩, by simp [intOf]; omega⟩
          · rw [List.concat_eq_append] at HST HPS HPL
            obtain ⟨m', rfl⟩ : ∃ m', m = m' + 1 := ⟨a.length, by have := HST.out.len; simp at this; omega⟩
            cases bl
            · obtain ⟨g7, cc7, e7, _, _, _⟩ := own_some HST.out.o7 (by omega)
              cases e7
              have t7 : w1.cell? ⟨g7, m', none⟩ = some (.bool false) := by
                have hal : a.length = m' := by have := HST.out.len; simp at this; omega
                rw [HST.out.o7.cellAt m' (by omega), List.getElem?_map, List.getElem?_append_right (by omega), hal]
                simp
              have hzW := HB.out.size
              have hl1 := (Below.refl w1.heap.size w1).alloc (Nat.le_refl _) (.cells #[.int .i32 x] 21)
              have hl2 := hl1.alloc (by simp) (.cells #[.slice (some ⟨w1.heap.size, 0, none⟩) 1 1] 23)
              have HS1 := Lib.hid (HST.out.go hl2)
              have HK1 := Lib.hid (Blk.below HK.out hl2 HK.out.lt)
              have HB1 := Lib.hid (HB.out.trans (hl2.mono hzW))
              have HN1 := Lib.hid (show Rd ((w1.alloc (.cells #[.int .i32 x] 21)).alloc (.cells #[.slice (some ⟨w1.heap.size, 0, none⟩) 1 1] 23)) (w1.heap.size + 1 + 1) 1 (some ⟨w1.heap.size + 1, 0, none⟩) 1 [.slice (some ⟨w1.heap.size, 0, none⟩) 1 1] by
                have := Rd.new (w1.alloc (.cells #[.int .i32 x] 21)) 23 1 1 [.slice (some ⟨w1.heap.size, 0, none⟩) 1 1] rfl
                simpa using this)
              have H1C := Lib.hid (show ∀ u ∈ [Value.slice (some ⟨w1.heap.size, 0, none⟩) 1 1], u.oneCell' = true by intro u hu; simp at hu; subst hu; rfl)
              clear hl1 hl2
              go_wp2_with (at_builtin; refine wpList_append_rd _ rfl (.tmp 51) (.tmp 54) 59 rfl w.heap.size 23 i1 _ 1 24 Try.underlying59 hi1 y0 y1 y2 rfl (by decide) _ (m' + 1) _ rfl HS1.out.o6 _ (some ⟨w1.heap.size + 1, 0, none⟩) 1 1 [.slice (some ⟨w1.heap.size, 0, none⟩) 1 1] rfl HN1.out H1C.out (by simp only [maxLen]; omega) (by omega) HB1.out.size ?_)
              intro v6' w2 happ
              have hbp := happ.below HB1.out.size HS1.out.o6
              have ho7 := own_kept_other HS1.out.o7 HS1.out.o6 (by decide) happ
              have hl3 := (Below.refl w2.heap.size w2).alloc (Nat.le_refl _) (.cells #[.bool true] 4)
              have HAP := Lib.hid happ
              have HK2 := Lib.hid (Blk.below (blk_app HK1.out HS1.out.o6 (by decide) happ) hl3 (Nat.lt_of_lt_of_le HK1.out.lt (happ.2.1.size)))
              have HB2 := Lib.hid (HB1.out.trans (hbp.trans (hl3.mono (Nat.le_trans HB1.out.size happ.2.1.size))))
              obtain ⟨bs, hbs⟩ : ∃ bs, (a ++ [(pc, false)]).map (fun p : Pc => Value.bool p.2) = bs := ⟨_, rfl⟩
              have HBS := Lib.hid hbs
              have HO7 := Lib.hid (show (w2.alloc (.cells #[.bool true] 4)).ownsRow w.heap.size 4 1 (.slice (some ⟨g7, 0, none⟩) (m' + 1) c7) (m' + 1) bs by rw [← hbs]; exact own_below ho7 hl3)
              have HL3 := Lib.hid hl3
              have HN2 := Lib.hid (Rd.new w2 4 1 1 [.bool true] rfl)
              obtain ⟨A6', c6', rfl, _⟩ := own_form happ.own
              clear happ hbp ho7 hl3 hbs
              go_wp2_with (at_builtin; refine wpList_append_rd _ rfl (.tmp 56) (.tmp 58) 100 rfl w.heap.size 4 i2 _ 1 1 Try.underlying100 hi2 x0 x1 x2 rfl (by decide) _ (m' + 1) _ rfl HO7.out _ (some ⟨w2.heap.size, 0, none⟩) 1 1 [.bool true] rfl HN2.out (by intro u hu; simp at hu; subst hu; rfl) (by simp only [maxLen]; omega) (by omega) HB2.out.size ?_)
              intro v7' w4 happ7
              have hap8 := happ7
              rw [← HBS.out] at hap8
              have HSN := Lib.hid (HST.out.push hzW HAP.out HL3.out hap8)
              have HK4 := Lib.hid (blk_app HK2.out HO7.out (by decide) happ7)
              have HB4 := Lib.hid (HB2.out.trans (happ7.below HB2.out.size HO7.out))
              have HPN := Lib.hid (HPS.out.trans (pushP_new HMN.out (fun h => by have := h.2; rw [lastIn_snoc] at this; cases this)))
              clear happ7 hap8 HO7 HN2 HL3 HAP HBS
              go_wp2_with fail
              exact ⟨⟨k + 1, m' + 1 + 1, _, by omega, by go_num, by omega, by rw [HPN.out]; exact HSN.out, by rw [HPN.out]; exact len_snoc HPL.out (by simp), HK4.out, HB4.out⟩, by simp [intOf]; omega⟩
            · have hzW := HB.out.size
              obtain ⟨g6, cc6, e6, _, _, _⟩ := own_some HST.out.o6 (by omega)
              cases e6
              obtain ⟨g7, cc7, e7, _, _, _⟩ := own_some HST.out.o7 (by omega)
              cases e7
              obtain ⟨us0, u, rfl⟩ : ∃ us0 u, us = us0 ++ [u] := by
                rcases List.eq_nil_or_concat us with e | ⟨us0, u, e⟩
                · have := HST.out.ul; rw [e] at this; simp at this
                · exact ⟨us0, u, by rw [e, List.concat_eq_append]⟩
              have hul : us0.length = m' := by have := HST.out.ul; simp at this; omega
              have hal : a.length = m' := by have := HST.out.len; simp at this; omega
              have hu : (us0 ++ [u])[m']? = some u := by rw [List.getElem?_append_right (by omega), hul]; simp
              have hp : (a ++ [(pc, true)])[m']? = some (pc, true) := by rw [List.getElem?_append_right (by omega), hal]; simp
              have how := HST.out.own m' _ u hp hu
              obtain ⟨gu, hgu⟩ := HST.out.blk m' u hu
              obtain ⟨cu, rfl, _⟩ := own_blk how hgu
              have HLP := Lib.hid (show pc.length ≤ 1000000 by have := HPL.out (pc, true) (by simp); simp only at this; omega)
              have t6 : w1.cell? ⟨g6, m', none⟩ = some (.slice (some ⟨gu, 0, none⟩) pc.length cu) := by rw [HST.out.o6.cellAt m' (by omega)]; exact hu
              have t7 : w1.cell? ⟨g7, m', none⟩ = some (.bool true) := by rw [HST.out.o7.cellAt m' (by omega), List.getElem?_map, hp]; rfl
              have hl1 := (Below.refl w1.heap.size w1).alloc (Nat.le_refl _) (.cells #[.int .i32 x] 21)
              have HS1 := Lib.hid (HST.out.go hl1)
              have HK1 := Lib.hid (Blk.below HK.out hl1 HK.out.lt)
              have HB1 := Lib.hid (HB.out.trans (hl1.mono hzW))
              have HOW := Lib.hid (own_below how hl1)
              have HN1 := Lib.hid (Rd.new w1 21 1 1 [.int .i32 x] rfl)
              obtain ⟨n, hn⟩ : ∃ n, pc.length = n := ⟨_, rfl⟩
              rw [hn] at t6 HOW HLP
              clear hl1 how hgu hu hp
              have hn1 := HLP.out
              go_wp2_with (at_builtin; refine wpList_append_rd _ rfl (.tmp 46) (.tmp 48) 23 rfl w.heap.size 21 i0 _ 1 4 Try.underlying23 hi z0 z1 z2 rfl (by decide) _ n _ rfl HOW.out _ (some ⟨w1.heap.size, 0, none⟩) 1 1 (runeCells [x]) rfl HN1.out (runeCells_one _) (by simp only [maxLen]; omega) (by omega) HB1.out.size ?_)
              intro u' w2 happ
              obtain ⟨hsn, q6, f6⟩ := HS1.out.ext hul hn happ
              have HSN := Lib.hid hsn
              have hb2 := happ.below HB1.out.size HOW.out
              have hK2 := blk_app HK1.out HOW.out (by decide) happ
              have hg6 : g6 ≠ w.heap.size := fun e => own_ne_blk' HS1.out.o6 HK1.out (by decide) (by rw [e]; rfl)
              obtain ⟨Au, cu', rfl, _⟩ := own_form happ.own
              have HK3 := Lib.hid ((Below.heap_setCell w2 ⟨g6, m', none⟩ (.slice Au (n + 1) cu') w.heap.size (fun e => hg6 e.symm)).trans hK2)
              have HB3 := Lib.hid ((HB1.out.trans hb2).setCell (p := ⟨g6, m', none⟩) (by have := (own_lt hsn.o6 rfl).1; exact this) (.slice Au (n + 1) cu'))
              have HPN := Lib.hid (HPS.out.trans (pushP_ext HMN.out))
              clear happ hsn hb2 hK2
              go_wp2_with fail
              exact ⟨⟨k + 1, m' + 1, _, by omega, by go_num, by omega, by rw [HPN.out]; exact HSN.out, by rw [HPN.out]; exact len_snoc (fun p hp => HPL.out p (List.mem_append_left _ hp)) (by have := HPL.out (pc, true) (by simp); simp only [List.length_append, List.length_cons, List.length_nil] at this ⊢; omega), HK3.out, HB3.out⟩, by simp [intOf]; omega⟩
    · obtain rfl : k = nt := by omega
      have HP := Lib.hid (show piecesP s t = (t.take k).foldl (pushP s) [] by unfold piecesP; rw [List.take_of_length_le (by omega)])
      have HST := Lib.hid hst
      have HPL := Lib.hid hpl
      clear hst hpl hkb
      go_wp2_with fail
      go_ret2
      exact ⟨⟨_, _, m, us, rfl, by rw [HP.out]; exact HST.out, hmk, by rw [HP.out]; exact HPL.out⟩, hb⟩

end Go.Proofs.Ytfmebbnccjaadaa
