/- What a pass makes of a piece, by the document's answer: passR, and it is passI where nothing is wrong with the pass. The walk of scriptref13.Pass. -/
import Derived.Test.YtfmebbnccjaadaaChainGo
import Derived.Test.YtfmebbnccjaadaaRefCompile
namespace Go.Proofs.Ytfmebbnccjaadaa
open Go.RowKit

def sameP (x : Int) : Int := x
theorem map_same (l : List Int) : l.map sameP = l := by rw [show sameP = id from rfl, List.map_id]
def nameMap (nm : ByteArray) (l : List Int) : List Int := if isUpper nm = true then l.map upP else if isLower nm = true then l.map lowP else if isNull nm = true then l else []
def passR (p : PassD) (l : List Int) : List Int × Int :=
  if isNone p.name = true then (if (compP p.rules).2.1 ≠ 0 ∧ textP l = 0 then ([], (compP p.rules).2.1) else ((runRefP p.rules l).1.text, (runRefP p.rules l).2.1)) else (nameMap p.name l, 0)
theorem none_not {nm : ByteArray} (h : isNone nm = true) : isUpper nm = false ∧ isLower nm = false ∧ isRemove nm = false ∧ isNull nm = false := by
  have e : nm.toList = [] := by unfold isNone at h; simpa using h
  unfold isUpper isLower isRemove isNull
  rw [e]
  exact ⟨rfl, rfl, rfl, rfl⟩
theorem pass_four {nm : ByteArray} (h : passB nm = true) : isUpper nm = true ∨ isLower nm = true ∨ isRemove nm = true ∨ isNull nm = true := by
  have e1 : nmLower.toList = [108, 111, 119, 101, 114] := by decide +kernel
  have e2 : nmNull.toList = [110, 117, 108, 108] := by decide +kernel
  have e3 : nmRemove.toList = [114, 101, 109, 111, 118, 101] := by decide +kernel
  have e4 : nmUpper.toList = [117, 112, 112, 101, 114] := by decide +kernel
  unfold passB isOne at h
  simp only [List.any_cons, List.any_nil, Bool.or_false, Bool.or_eq_true] at h
  unfold isUpper isLower isRemove isNull
  rw [e1, e2, e3, e4] at h
  rcases h with h | h | h | h
  · exact .inr (.inl h)
  · exact .inr (.inr (.inr h))
  · exact .inr (.inr (.inl h))
  · exact .inl h
theorem play_plain {l : List RuleD} (t : List Int) (h : (rulesW l).1 = 0) : (if (compP l).2.1 ≠ 0 ∧ textP t = 0 then (([] : List Int), (compP l).2.1) else ((runRefP l t).1.text, (runRefP l t).2.1)) = ((playP l t).1.text, (playP l t).2.1) := by
  have hck : checkP l t = (textP t, 0) := by unfold checkP; rw [if_neg (fun e => e h)]
  by_cases ht : textP t = 0
  · by_cases hc : (compP l).2.1 = 0
    · have e1 : playP l t = okOut (runGo l (8 * t.length + 40) [] t 0 0) := by unfold playP; rw [if_neg (fun e => e h), if_neg (fun e => e ht), if_neg (fun e => e hc)]
      have e2 : runRefP l t = okOut (runGo l (8 * t.length + 40) [] t 0 0) := by unfold runRefP; rw [hck, if_neg (fun e => e ht)]
      rw [if_neg (fun e => e.1 hc), e1, e2]
    · have e1 : playP l t = (noOut, (compP l).2) := by unfold playP; rw [if_neg (fun e => e h), if_neg (fun e => e ht), if_pos hc]
      rw [if_pos ⟨hc, ht⟩, e1]
      rfl
  · have e1 : playP l t = (noOut, (textP t, 0)) := by unfold playP; rw [if_neg (fun e => e h), if_pos ht]
    have e2 : runRefP l t = (noOut, (textP t, 0)) := by unfold runRefP; rw [hck, if_pos ht]
    rw [if_neg (fun e => ht e.2), e1, e2]
theorem pass_same {p : PassD} (h : passW p = 0) (l : List Int) : passR p l = passI p l := by
  unfold passW at h
  unfold passR passI
  by_cases hn : isNone p.name = true
  · rw [if_pos hn] at h
    obtain ⟨h1, h2, h3, h4⟩ := none_not hn
    rw [h1, h2, h3, h4, if_pos hn, play_plain l h]
    rfl
  · rw [if_neg hn] at h ⊢
    cases hb : passB p.name
    · rw [hb, if_pos rfl] at h; cases h
    · unfold nameMap
      rcases pass_four hb with h1 | h1 | h1 | h1
      · rw [if_pos h1, if_pos h1]
      · by_cases hu : isUpper p.name = true
        · rw [if_pos hu, if_pos hu]
        · rw [if_neg hu, if_neg hu, if_pos h1, if_pos h1]
      · have hu : ¬ isUpper p.name = true := by unfold isUpper isRemove at *; intro e; rw [beq_iff_eq] at e h1; rw [e] at h1; cases h1
        have hl : ¬ isLower p.name = true := by unfold isLower isRemove at *; intro e; rw [beq_iff_eq] at e h1; rw [e] at h1; cases h1
        have hx : ¬ isNull p.name = true := by unfold isNull isRemove at *; intro e; rw [beq_iff_eq] at e h1; rw [e] at h1; cases h1
        rw [if_neg hu, if_neg hu, if_neg hl, if_neg hl, if_pos h1, if_neg hx]
      · have hu : ¬ isUpper p.name = true := by unfold isUpper isNull at *; intro e; rw [beq_iff_eq] at e h1; rw [e] at h1; cases h1
        have hl : ¬ isLower p.name = true := by unfold isLower isNull at *; intro e; rw [beq_iff_eq] at e h1; rw [e] at h1; cases h1
        have hx : ¬ isRemove p.name = true := by unfold isRemove isNull at *; intro e; rw [beq_iff_eq] at e h1; rw [e] at h1; cases h1
        rw [if_neg hu, if_neg hu, if_neg hl, if_neg hl, if_neg hx, if_pos h1, if_pos h1]

def RmRel (w : World) (cs : Array Value) (g : Int → Int) (l : List Int) (n : Nat) (s10 i : Value) (wr : World) : Prop :=
  ∃ k : Nat, k ≤ n ∧ i = .int .i64 k ∧ wr.ownsRow w.heap.size 21 1 s10 k (runeCells ((l.map g).take k)) ∧ Blk wr w.heap.size 104 cs ∧ Below w.heap.size w wr
def RzRel (w : World) (cs : Array Value) (n : Nat) (s10 i : Value) (wr : World) : Prop :=
  ∃ k : Nat, k ≤ n ∧ i = .int .i64 k ∧ s10 = .slice none 0 0 ∧ Blk wr w.heap.size 104 cs ∧ Below w.heap.size w wr
def RpPost (lo : Nat) (w' : World) (o : List Int × Int) (e : Ending) : Prop :=
  ∃ (A : Option Addr) (n c : Nat), e = .returned (.tuple #[.slice A n c, .int .i64 o.2]) ∧ RdX w' (fun b => lo ≤ b) 1 A n (runeCells o.1)

set_option maxRecDepth 100000 in
set_option maxHeartbeats 6400000 in
theorem ref13_pass (X : Nat → Prop) (p : PassD) (Ar A : Option Addr) (nr cr n c : Nat) (l : List Int) (w : World) (hnr : nr ≤ maxLen) (hp : ListX (RuleC w X) w X 7 Ar nr p.rules) (hnm : n ≤ 1000000) (hl : RdR w w.heap.size A n l) :
    Calls Try.prog 57 #[.agg #[.string p.name, .slice Ar nr cr], .slice A n c] w fun e w' => RpPost w.heap.size w' (passR p l) e ∧ Below w.heap.size w w' := by
  obtain ⟨i0, hi, z0, z1, z2⟩ := info_parts Try.info21
  have HB0 := Lib.hid ((Below.refl w.heap.size w).alloc (Nat.le_refl _) (.cells #[.string p.name, .slice Ar nr cr] 104))
  have HK0 := Lib.hid (Blk.new w 104 #[.string p.name, .slice Ar nr cr])
  have HLT := Lib.hid (fun (W : World) (hb : Below w.heap.size w W) => show RdR W W.heap.size A n l from (Rd.below hl hb).more hb.size)
  have HRU := Lib.hid (fun (W : World) (hb : Below w.heap.size w W) => show ListX (RuleC W X) W X 7 Ar nr p.rules from hp.keep (Keeps.any hb) (fun _ _ => RuleC.keep (Keeps.any hb)))
  have HLW := Lib.hid hl
  have HLEN := Lib.hid hl.len
  clear hl hp
  have d0 : (w.alloc (.cells #[.string p.name, .slice Ar nr cr] 104)).cell? ⟨w.heap.size, 0, none⟩ = some (.string p.name) := HK0.out.cell 0
  have d1 : (w.alloc (.cells #[.string p.name, .slice Ar nr cr] 104)).cell? ⟨w.heap.size, 1, none⟩ = some (.slice Ar nr cr) := HK0.out.cell 1
  go_enter Try.func57, Try.ntmps57
  go_upto_region 1 with fail
  generalize hW0 : w.alloc (.cells #[.string p.name, .slice Ar nr cr] 104) = W0 at *
  cases en : isNone p.name
  · have en1 : (p.name.toList == []) = false := en
    generalize hcs : (#[.string p.name, .slice Ar nr cr] : Array Value) = cs at *
    have HC0 := Lib.hid (show cs[0]? = some (.string p.name) by subst hcs; rfl)
    clear hcs d1
    have HPR := Lib.hid (show passR p l = (nameMap p.name l, 0) by unfold passR; rw [en]; rfl)
    clear en
    cases e1 : isUpper p.name
    · have h1 : (p.name.toList == [117, 112, 112, 101, 114]) = false := e1
      cases e2 : isLower p.name
      · have h2 : (p.name.toList == [108, 111, 119, 101, 114]) = false := e2
        cases e3 : isNull p.name
        · have h3 : (p.name.toList == [110, 117, 108, 108]) = false := e3
          have HP := Lib.hid (show passR p l = ([], 0) by rw [HPR.out]; unfold nameMap; rw [e1, e2, e3]; rfl)
          clear e1 e2 e3
          go_wp2_with fail
          go_loopw [10, 45] (RzRel w cs n) (fun _ i _ => n - (intOf i).toNat)
          case atStart => exact ⟨0, Nat.zero_le _, rfl, rfl, HK0.out, HB0.out⟩
          case round =>
            obtain ⟨k, hk, rfl, rfl, hkb, hb⟩ := hrel
            by_cases hlt : k < n
            · obtain ⟨x, hx⟩ : ∃ z, l[k]? = some z := ⟨_, List.getElem?_eq_getElem (by rw [HLEN.out]; exact hlt)⟩
              obtain ⟨b, off, rfl, hbb, c0⟩ := HLW.out.at hlt
              rw [show l.getD k 0 = x by simp [List.getD, hx]] at c0
              have d0 := (hb.cell (p := ⟨b, off + k, none⟩) hbb).trans c0
              have d1 : wr.cell? ⟨w.heap.size, 0, none⟩ = some (.string p.name) := (hkb.cell 0).trans HC0.out
              have HB := Lib.hid hb
              have HK := Lib.hid hkb
              clear hx c0 hb hkb
              go_wp2_with fail
              exact ⟨⟨k + 1, by omega, by go_num, rfl, HK.out, HB.out⟩, by simp [intOf]; omega⟩
            · obtain rfl : k = n := by omega
              clear hkb
              go_wp2_with fail
              go_ret2
              rw [HP.out]
              exact ⟨⟨none, 0, 0, rfl, ⟨rfl, fun h => absurd h (Nat.lt_irrefl 0)⟩⟩, hb⟩
        · have h3 : (p.name.toList == [110, 117, 108, 108]) = true := e3
          have HP := Lib.hid (show passR p l = (l.map sameP, 0) by rw [HPR.out, map_same]; unfold nameMap; rw [e1, e2, e3]; rfl)
          clear e1 e2 e3
          go_wp2_with fail
          go_loopw [10, 45] (RmRel w cs sameP l n) (fun _ i _ => n - (intOf i).toNat)
          case atStart => exact ⟨0, Nat.zero_le _, rfl, World.ownsRow_nil _ _ _ _, HK0.out, HB0.out⟩
          case round =>
            obtain ⟨k, hk, rfl, hown, hkb, hb⟩ := hrel
            have hz := hb.size
            obtain ⟨Av, cv, rfl, _⟩ := own_form hown
            by_cases hlt : k < n
            · obtain ⟨x, hx⟩ : ∃ z, l[k]? = some z := ⟨_, List.getElem?_eq_getElem (by rw [HLEN.out]; exact hlt)⟩
              obtain ⟨b, off, rfl, hbb, c0⟩ := HLW.out.at hlt
              rw [show l.getD k 0 = x by simp [List.getD, hx]] at c0
              have d0 := (hb.cell (p := ⟨b, off + k, none⟩) hbb).trans c0
              have d1 : wr.cell? ⟨w.heap.size, 0, none⟩ = some (.string p.name) := (hkb.cell 0).trans HC0.out
              have HS := Lib.hid (map_snoc sameP hx)
              have HO := Lib.hid hown
              have HB := Lib.hid hb
              have HK := Lib.hid hkb
              clear hx c0 hown hb hkb
              have HOX := Lib.hid HO.out
              have HBX := Lib.hid HB.out
              have HKX := Lib.hid HK.out
              have HO1 := Lib.hid (World.ownsRow.alloc (HOX.out) (.cells #[.int .i32 x] 21))
              have HB2 := Lib.hid (HBX.out.alloc HBX.out.size (.cells #[.int .i32 x] 21))
              have HK2 := Lib.hid (HKX.out.alloc (.cells #[.int .i32 x] 21))
              have HN := Lib.hid (Rd.new wr 21 1 1 [.int .i32 x] rfl)
              go_wp2_with (at_builtin; refine wpList_append_rd _ rfl (.tmp 67) (.tmp 69) 23 rfl w.heap.size 21 i0 _ 1 4 Try.underlying23 hi z0 z1 z2 rfl (by decide) _ k _ rfl HO1.out _ (some ⟨wr.heap.size, 0, none⟩) 1 1 (runeCells [x]) rfl HN.out (runeCells_one _) (by simp only [maxLen]; omega) (by omega) HB2.out.size ?_)
              intro v9 w9 happ
              have ho9 := happ.own
              rw [show (runeCells ((l.map sameP).take k) ++ runeCells [x]) = runeCells ((l.map sameP).take (k + 1)) from HS.out] at ho9
              have HO9 := Lib.hid ho9
              have HB9 := Lib.hid (HB2.out.trans (happ.below HB2.out.size HO1.out))
              have HK9 := Lib.hid (blk_app HK2.out HO1.out (by decide) happ)
              clear happ ho9
              go_wp2_with fail
              exact ⟨⟨k + 1, by omega, by go_num, HO9.out, HK9.out, HB9.out⟩, by simp [intOf]; omega⟩
            · obtain rfl : k = n := by omega
              rw [List.take_of_length_le (by rw [List.length_map, HLEN.out]; exact Nat.le_refl _)] at hown
              have HO := Lib.hid hown
              clear hown hkb
              go_wp2_with fail
              go_ret2
              rw [HP.out]
              exact ⟨⟨_, _, _, rfl, RdX.of_own HO.out (fun b hb => (own_lt HO.out hb).1)⟩, hb⟩
      · have h2 : (p.name.toList == [108, 111, 119, 101, 114]) = true := e2
        have HP := Lib.hid (show passR p l = (l.map lowP, 0) by rw [HPR.out]; unfold nameMap; rw [e1, e2]; rfl)
        clear e1 e2
        go_wp2_with fail
        go_loopw [10, 45] (RmRel w cs lowP l n) (fun _ i _ => n - (intOf i).toNat)
        case atStart => exact ⟨0, Nat.zero_le _, rfl, World.ownsRow_nil _ _ _ _, HK0.out, HB0.out⟩
        case round =>
          obtain ⟨k, hk, rfl, hown, hkb, hb⟩ := hrel
          have hz := hb.size
          obtain ⟨Av, cv, rfl, _⟩ := own_form hown
          by_cases hlt : k < n
          · obtain ⟨x, hx⟩ : ∃ z, l[k]? = some z := ⟨_, List.getElem?_eq_getElem (by rw [HLEN.out]; exact hlt)⟩
            obtain ⟨b, off, rfl, hbb, c0⟩ := HLW.out.at hlt
            rw [show l.getD k 0 = x by simp [List.getD, hx]] at c0
            have d0 := (hb.cell (p := ⟨b, off + k, none⟩) hbb).trans c0
            have d1 : wr.cell? ⟨w.heap.size, 0, none⟩ = some (.string p.name) := (hkb.cell 0).trans HC0.out
            have HS := Lib.hid (map_snoc lowP hx)
            have HO := Lib.hid hown
            have HB := Lib.hid hb
            have HK := Lib.hid hkb
            clear hx c0 hown hb hkb
            go_wp2_with fail
            refine (ref_lower x wr).mono ?_
            rintro e w1 ⟨rfl, h1⟩
            obtain rfl := h1.symm
            have HOX := Lib.hid HO.out
            have HBX := Lib.hid HB.out
            have HKX := Lib.hid HK.out
            have HO1 := Lib.hid (World.ownsRow.alloc (HOX.out) (.cells #[.int .i32 (lowP x)] 21))
            have HB2 := Lib.hid (HBX.out.alloc HBX.out.size (.cells #[.int .i32 (lowP x)] 21))
            have HK2 := Lib.hid (HKX.out.alloc (.cells #[.int .i32 (lowP x)] 21))
            have HN := Lib.hid (Rd.new wr 21 1 1 [.int .i32 (lowP x)] rfl)
            go_wp2_with (at_builtin; refine wpList_append_rd _ rfl (.tmp 60) (.tmp 63) 23 rfl w.heap.size 21 i0 _ 1 4 Try.underlying23 hi z0 z1 z2 rfl (by decide) _ k _ rfl HO1.out _ (some ⟨wr.heap.size, 0, none⟩) 1 1 (runeCells [(lowP x)]) rfl HN.out (runeCells_one _) (by simp only [maxLen]; omega) (by omega) HB2.out.size ?_)
            intro v9 w9 happ
            have ho9 := happ.own
            rw [show (runeCells ((l.map lowP).take k) ++ runeCells [(lowP x)]) = runeCells ((l.map lowP).take (k + 1)) from HS.out] at ho9
            have HO9 := Lib.hid ho9
            have HB9 := Lib.hid (HB2.out.trans (happ.below HB2.out.size HO1.out))
            have HK9 := Lib.hid (blk_app HK2.out HO1.out (by decide) happ)
            clear happ ho9
            go_wp2_with fail
            exact ⟨⟨k + 1, by omega, by go_num, HO9.out, HK9.out, HB9.out⟩, by simp [intOf]; omega⟩
          · obtain rfl : k = n := by omega
            rw [List.take_of_length_le (by rw [List.length_map, HLEN.out]; exact Nat.le_refl _)] at hown
            have HO := Lib.hid hown
            clear hown hkb
            go_wp2_with fail
            go_ret2
            rw [HP.out]
            exact ⟨⟨_, _, _, rfl, RdX.of_own HO.out (fun b hb => (own_lt HO.out hb).1)⟩, hb⟩
    · have h1 : (p.name.toList == [117, 112, 112, 101, 114]) = true := e1
      have HP := Lib.hid (show passR p l = (l.map upP, 0) by rw [HPR.out]; unfold nameMap; rw [e1]; rfl)
      clear e1
      go_wp2_with fail
      go_loopw [10, 45] (RmRel w cs upP l n) (fun _ i _ => n - (intOf i).toNat)
      case atStart => exact ⟨0, Nat.zero_le _, rfl, World.ownsRow_nil _ _ _ _, HK0.out, HB0.out⟩
      case round =>
        obtain ⟨k, hk, rfl, hown, hkb, hb⟩ := hrel
        have hz := hb.size
        obtain ⟨Av, cv, rfl, _⟩ := own_form hown
        by_cases hlt : k < n
        · obtain ⟨x, hx⟩ : ∃ z, l[k]? = some z := ⟨_, List.getElem?_eq_getElem (by rw [HLEN.out]; exact hlt)⟩
          obtain ⟨b, off, rfl, hbb, c0⟩ := HLW.out.at hlt
          rw [show l.getD k 0 = x by simp [List.getD, hx]] at c0
          have d0 := (hb.cell (p := ⟨b, off + k, none⟩) hbb).trans c0
          have d1 : wr.cell? ⟨w.heap.size, 0, none⟩ = some (.string p.name) := (hkb.cell 0).trans HC0.out
          have HS := Lib.hid (map_snoc upP hx)
          have HO := Lib.hid hown
          have HB := Lib.hid hb
          have HK := Lib.hid hkb
          clear hx c0 hown hb hkb
          go_wp2_with fail
          refine (ref_upper x wr).mono ?_
          rintro e w1 ⟨rfl, h1⟩
          obtain rfl := h1.symm
          have HOX := Lib.hid HO.out
          have HBX := Lib.hid HB.out
          have HKX := Lib.hid HK.out
          have HO1 := Lib.hid (World.ownsRow.alloc (HOX.out) (.cells #[.int .i32 (upP x)] 21))
          have HB2 := Lib.hid (HBX.out.alloc HBX.out.size (.cells #[.int .i32 (upP x)] 21))
          have HK2 := Lib.hid (HKX.out.alloc (.cells #[.int .i32 (upP x)] 21))
          have HN := Lib.hid (Rd.new wr 21 1 1 [.int .i32 (upP x)] rfl)
          go_wp2_with (at_builtin; refine wpList_append_rd _ rfl (.tmp 53) (.tmp 56) 23 rfl w.heap.size 21 i0 _ 1 4 Try.underlying23 hi z0 z1 z2 rfl (by decide) _ k _ rfl HO1.out _ (some ⟨wr.heap.size, 0, none⟩) 1 1 (runeCells [(upP x)]) rfl HN.out (runeCells_one _) (by simp only [maxLen]; omega) (by omega) HB2.out.size ?_)
          intro v9 w9 happ
          have ho9 := happ.own
          rw [show (runeCells ((l.map upP).take k) ++ runeCells [(upP x)]) = runeCells ((l.map upP).take (k + 1)) from HS.out] at ho9
          have HO9 := Lib.hid ho9
          have HB9 := Lib.hid (HB2.out.trans (happ.below HB2.out.size HO1.out))
          have HK9 := Lib.hid (blk_app HK2.out HO1.out (by decide) happ)
          clear happ ho9
          go_wp2_with fail
          exact ⟨⟨k + 1, by omega, by go_num, HO9.out, HK9.out, HB9.out⟩, by simp [intOf]; omega⟩
        · obtain rfl : k = n := by omega
          rw [List.take_of_length_le (by rw [List.length_map, HLEN.out]; exact Nat.le_refl _)] at hown
          have HO := Lib.hid hown
          clear hown hkb
          go_wp2_with fail
          go_ret2
          rw [HP.out]
          exact ⟨⟨_, _, _, rfl, RdX.of_own HO.out (fun b hb => (own_lt HO.out hb).1)⟩, hb⟩
  · have en1 : (p.name.toList == []) = true := en
    have HPR := Lib.hid (show passR p l = if (compP p.rules).2.1 ≠ 0 ∧ textP l = 0 then ([], (compP p.rules).2.1) else ((runRefP p.rules l).1.text, (runRefP p.rules l).2.1) by unfold passR; rw [en]; rfl)
    clear en hW0
    have HCP := Lib.hid (ref_compile X p.rules Ar nr cr W0 hnr (HRU.out W0 HB0.out))
    go_wp2_with fail
    refine HCP.out.mono ?_
    rintro e w1 ⟨⟨v, rfl, _⟩, hb1⟩
    obtain ⟨hs, k1, k2, hC⟩ : ∃ hs k1 k2, compP p.rules = (hs, (k1, k2)) := ⟨_, _, _, rfl⟩
    rw [hC] at HPR ⊢
    dsimp only at HPR ⊢
    have hba := (Below.refl w1.heap.size w1).alloc (Nat.le_refl _) (.cells #[.int .i64 k1, .int .i64 k2] 28)
    have HK1 := Lib.hid (Blk.below (Blk.below HK0.out hb1 HK0.out.lt) hba (by have := HK0.out.lt; have := hb1.size; omega))
    have HB1 := Lib.hid (HB0.out.trans ((hb1.trans (hba.mono hb1.size)).mono HB0.out.size))
    have HF1 := Lib.hid (Blk.new w1 28 #[.int .i64 k1, .int .i64 k2])
    clear hba hb1 HCP hC d0 d1
    go_upto_region 3 with fail
    generalize w1.alloc (.cells #[.int .i64 k1, .int .i64 k2] 28) = W1 at *
    have f0 : W1.cell? ⟨w1.heap.size, 0, none⟩ = some (.int .i64 k1) := HF1.out.cell 0
    have HTX := Lib.hid (ref7_text A n c l W1 (by simp only [maxLen]; omega) (HLT.out W1 HB1.out))
    have HRN := Lib.hid (fun (W : World) (hb : Below w.heap.size w W) => ref8_run X p.rules Ar nr cr l A n c W hnr (HRU.out W hb) (by simp only [maxLen]; omega) (HLT.out W hb))
    by_cases hk1 : k1 = 0
    · subst hk1
      have HP := Lib.hid (HPR.out.trans (if_neg (fun h => h.1 rfl)))
      have HKX := Lib.hid HK1.out
      have HBX := Lib.hid HB1.out
      have x1 : W1.cell? ⟨w.heap.size, 1, none⟩ = some (.slice Ar nr cr) := HKX.out.cell 1
      go_wp2_with fail
      refine (HRN.out W1 HBX.out).mono ?_
      rintro e w3 ⟨⟨A', n', c', rfl, hr⟩, hb⟩
      have HB := Lib.hid (HBX.out.trans (hb.mono HBX.out.size))
      have hzb := HBX.out.size
      obtain ⟨⟨x, st, pt⟩, f1, f2, ho⟩ : ∃ o f1 f2, runRefP p.rules l = (o, (f1, f2)) := ⟨_, _, _, rfl⟩
      have HPP := Lib.hid (show passR p l = (x, f1) by rw [HP.out, ho])
      rw [ho] at hr ⊢
      dsimp only at hr ⊢
      have hba := (((Below.refl w3.heap.size w3).alloc (Nat.le_refl _) (.cells #[.slice A' n' c', .int .i64 st, .int .i64 pt] 25)).alloc (by simp) (.cells #[.int .i64 f1, .int .i64 f2] 28))
      have HR := Lib.hid ((hr.keep (X' := fun b => w.heap.size ≤ b) (Keeps.below (Below.refl w3.heap.size w3) (fun b h _ => Nat.le_trans hzb h))).keep (Keeps.any hba))
      have HBF := Lib.hid (HB.out.trans (hba.mono HB.out.size))
      clear hr hb hba ho
      go_wp2_with fail
      go_quiet (fail)
      go_wp2_with fail
      go_ret2
      rw [HPP.out]
      exact ⟨⟨A', n', c', rfl, HR.out⟩, below_drewN HBF.out nq⟩
    · go_wp2_with fail
      refine HTX.out.mono ?_
      rintro e w2 ⟨rfl, hb2⟩
      have HKX := Lib.hid (Blk.below HK1.out hb2 HK1.out.lt)
      have HFX := Lib.hid (Blk.below HF1.out hb2 HF1.out.lt)
      have HBX := Lib.hid (HB1.out.trans (hb2.mono HB1.out.size))
      clear hb2 HTX f0
      have f0 : w2.cell? ⟨w1.heap.size, 0, none⟩ = some (.int .i64 k1) := HFX.out.cell 0
      obtain ⟨tp, htp⟩ : ∃ tp, textP l = tp := ⟨_, rfl⟩
      rw [htp] at HPR ⊢
      clear htp
      by_cases ht : tp = 0
      · subst ht
        have HP := Lib.hid (HPR.out.trans (if_pos ⟨hk1, rfl⟩))
        go_wp2_with fail
        go_quiet (fail)
        go_wp2_with fail
        go_ret2
        rw [HP.out]
        exact ⟨⟨none, 0, 0, rfl, ⟨rfl, fun h => absurd h (Nat.lt_irrefl 0)⟩⟩, below_drewN HBX.out nq⟩
      · have HP := Lib.hid (HPR.out.trans (if_neg (fun h => ht h.2)))
        have ht2 : ((tp : Int) == 0) = false := beq_eq_false_iff_ne.2 ht
        have x1 : w2.cell? ⟨w.heap.size, 1, none⟩ = some (.slice Ar nr cr) := HKX.out.cell 1
        go_wp2_with fail
        refine (HRN.out w2 HBX.out).mono ?_
        rintro e w3 ⟨⟨A', n', c', rfl, hr⟩, hb⟩
        have HB := Lib.hid (HBX.out.trans (hb.mono HBX.out.size))
        have hzb := HBX.out.size
        obtain ⟨⟨x, st, pt⟩, f1, f2, ho⟩ : ∃ o f1 f2, runRefP p.rules l = (o, (f1, f2)) := ⟨_, _, _, rfl⟩
        have HPP := Lib.hid (show passR p l = (x, f1) by rw [HP.out, ho])
        rw [ho] at hr ⊢
        dsimp only at hr ⊢
        have hba := (((Below.refl w3.heap.size w3).alloc (Nat.le_refl _) (.cells #[.slice A' n' c', .int .i64 st, .int .i64 pt] 25)).alloc (by simp) (.cells #[.int .i64 f1, .int .i64 f2] 28))
        have HR := Lib.hid ((hr.keep (X' := fun b => w.heap.size ≤ b) (Keeps.below (Below.refl w3.heap.size w3) (fun b h _ => Nat.le_trans hzb h))).keep (Keeps.any hba))
        have HBF := Lib.hid (HB.out.trans (hba.mono HB.out.size))
        clear hr hb hba ho
        go_wp2_with fail
        go_quiet (fail)
        go_wp2_with fail
        go_ret2
        rw [HPP.out]
        exact ⟨⟨A', n', c', rfl, HR.out⟩, below_drewN HBF.out nq⟩

end Go.Proofs.Ytfmebbnccjaadaa
