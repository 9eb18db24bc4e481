/- The words of a pattern, by the document's answer: the walk of scriptref5.Words. -/
import Derived.Test.YtdfljicijfceeaaDoorFileText
import Derived.Test.YtdfljicijfceeaaDoorStrs
import Derived.Test.YtdfljicijfceeaaDoorSide
namespace Go.Proofs.YtdfljicijfceeaaDoor
open Go.RowKit

theorem OwnT.push {w w2 : World} {base : Nat} {v v' : Value} {x : List UInt8} {X : ByteArray} (hX : (⟨x.toArray⟩ : ByteArray) = X) (l : List (List UInt8)) (h : Appended base 9 1 v w (l.length + 1) (strVals l ++ [.string X]) v' w2) : OwnT w2 base v' (l ++ [x]) :=
  OwnT.of h (by simp) (by rw [strVals_append]; subst hX; rfl)
theorem ba_list (x : ByteArray) : (⟨x.data.toList.toArray⟩ : ByteArray) = x := by
  apply ByteArray.ext
  simp

theorem items_ok {l : List ItemD} (h : itemsP l = 0) : l.length ≤ 20 ∧ ∀ a ∈ l, itemP a = 0 := by
  have h20 := items_small h
  refine ⟨h20, ?_⟩
  unfold itemsP at h
  rw [if_neg (by omega)] at h
  clear h20
  induction l with
  | nil => simp
  | cons a l ih =>
    rw [itemsGo] at h
    by_cases h1 : itemP a = 0
    · rw [if_pos h1] at h
      intro x hx
      rcases List.mem_cons.1 hx with rfl | hx
      · exact h1
      · exact ih h x hx
    · rw [if_neg h1] at h
      exact absurd h h1
theorem item_kinds {a : ItemD} (h : itemP a = 0) : (a.kind = 1 ∧ rightB a.rune = true) ∨ (a.kind = 2 ∧ wrongP a.set = 0) ∨ (a.kind = 3 ∧ namedP a.name = true) := by
  unfold itemP at h
  by_cases h1 : a.kind = 1
  · rw [if_pos h1] at h
    cases hr : rightB a.rune
    · rw [hr] at h; simp at h
    · exact .inl ⟨h1, rfl⟩
  rw [if_neg h1] at h
  by_cases h2 : a.kind = 2
  · rw [if_pos h2] at h
    exact .inr (.inl ⟨h2, h⟩)
  rw [if_neg h2] at h
  by_cases h3 : a.kind = 3
  · rw [if_pos h3] at h
    cases hr : namedP a.name
    · rw [hr] at h; simp at h
    · exact .inr (.inr ⟨h3, rfl⟩)
  rw [if_neg h3] at h
  cases h
theorem named_len {s : ByteArray} (h : namedP s = true) : s.size ≤ 20 := by
  unfold namedP at h
  rw [decide_eq_true_iff] at h
  exact h.2.1

def WdRel (w : World) (l : List ItemD) (cursor : Int) (n : Nat) (out i : Value) (wr : World) : Prop :=
  ∃ (k : Nat) (W : List (List UInt8)), k ≤ n ∧ i = .int .i64 k ∧ OwnT wr w.heap.size out W ∧ wordsP l cursor = W ++ wordsGo cursor k (l.drop k) ∧ W.length ≤ 2 * k ∧ Below w.heap.size w wr

set_option maxRecDepth 100000 in
set_option maxHeartbeats 3200000 in
theorem ref_words (A : Option Addr) (n c : Nat) (l : List ItemD) (cursor : Int) (w : World) (hl : RdIt w w.heap.size A n l) (hok : itemsP l = 0) :
    Calls Tryd.prog 34 #[.slice A n c, .int .i64 cursor] w fun e w' => (∃ v, e = .returned v ∧ OwnT w' w.heap.size v (wordsP l cursor)) ∧ Below w.heap.size w w' := by
  obtain ⟨i0, hi, hz0, hz1, hz2⟩ := info_parts infoStr
  obtain ⟨h20, hall⟩ := items_ok hok
  have hn20 : n ≤ 20 := by rw [← RdL.len hl]; exact h20
  have HLEN := Lib.hid (RdL.len hl)
  have HL := Lib.hid hl
  have HA := Lib.hid hall
  clear hl hok h20 hall
  go_enter Tryd.func34, Tryd.ntmps34
  go_wp2_with fail
  go_loopw [5, 6] (WdRel w l cursor n) (fun _ i _ => n + 1 - (intOf i).toNat)
  case atStart => exact ⟨0, [], Nat.zero_le _, rfl, OwnT.nil _ _, rfl, Nat.zero_le _, Below.refl _ _⟩
  case round =>
    obtain ⟨k, W, hk, rfl, hO, hgo, hWl, hb⟩ := hrel
    have hz := hb.size
    by_cases hlt : k < n
    · obtain ⟨a, ha⟩ : ∃ z, l[k]? = some z := ⟨_, List.getElem?_eq_getElem (by rw [HLEN.out]; exact hlt)⟩
      have hka := item_kinds (HA.out a (List.mem_of_getElem? ha))
      rw [drop_at ha, wordsGo] at hgo
      obtain ⟨b, off, A', n', c', rfl, hbb, f0, f1, f2, f3, hset, hn', _, hnm⟩ := item_at HL.out ha
      have hkn : ((k : Int) == (n : Int)) = false := by simp; omega
      obtain ⟨AO, cO, rfl, _⟩ := own_form hO
      by_cases hc : (k : Int) = cursor
      · have hc2 : ((k : Int) == cursor) = true := by simpa using hc
        rw [if_pos hc] at hgo
        have HG := Lib.hid hgo
        have HOW := Lib.hid hO
        clear hgo hO hc
        have HN1 := Lib.hid (Rd.new wr 9 1 1 [.string ⟨#[124]⟩] rfl)
        have HO1 := Lib.hid (World.ownsRow.alloc HOW.out (.cells #[.string ⟨#[124]⟩] 9))
        have HB1 := Lib.hid (hb.alloc hb.size (.cells #[.string ⟨#[124]⟩] 9))
        go_wp2_with (at_builtin; refine wpList_append_rd _ rfl (.tmp 18) (.tmp 19) 47 rfl w.heap.size 9 i0 _ 1 16 Tryd.underlying47 hi hz0 hz1 hz2 rfl (by decide) _ _ _ rfl HO1.out (wr.heap.size + 1) (some ⟨wr.heap.size, 0, none⟩) 1 1 [.string ⟨#[124]⟩] rfl HN1.out ?s1 (by simp only [maxLen]; omega) (by omega) HB1.out.size ?_)
        case s1 => intro u hu; simp at hu; subst hu; rfl
        intro v1 w1 happ
        have HP1 := Lib.hid (OwnT.push (x := [124]) rfl W happ)
        have HQ1 := Lib.hid (HB1.out.trans (happ.below HB1.out.size HO1.out))
        clear happ HN1 HO1 HB1
        have hP := HP1.out
        generalize hW1 : W ++ [[124]] = W1 at hP
        have hW1l : W1.length ≤ W.length + 1 := by rw [← hW1]; simp
        have HW1 := Lib.hid hW1
        have HPW := Lib.hid hP
        clear hW1 hP HP1
        obtain ⟨AO1, cO1, rfl, _⟩ := own_form HPW.out
        have d0 := (HQ1.out.cell (p := ⟨b, off + k * 4, none⟩) hbb).trans f0
        have d1 := (HQ1.out.cell (p := ⟨b, off + k * 4 + 1, none⟩) hbb).trans f1
        have d2 := (HQ1.out.cell (p := ⟨b, off + k * 4 + 2, none⟩) hbb).trans f2
        have d3 := (HQ1.out.cell (p := ⟨b, off + k * 4 + 3, none⟩) hbb).trans f3
        clear f0 f1 f2 f3
        rcases hka with ⟨hk1, hk2⟩ | ⟨hk1, hk2⟩ | ⟨hk1, hk2⟩
        · rw [hk1] at d0
          obtain ⟨hr0, hr1⟩ := right_range hk2
          have hX : (⟨(itemW a).toArray⟩ : ByteArray) = ⟨(quoteP a.rune).toArray⟩ := by unfold itemW; rw [if_pos hk1]
          clear hk1 hk2
          go_wp2_with fail
          refine (ref_quote a.rune hr0 hr1 _).mono ?_
          rintro e w2 ⟨rfl, hb2⟩
          have hb3 := HQ1.out.trans (hb2.mono HQ1.out.size)
          have ho3 : OwnT w2 w.heap.size _ _ := own_below HPW.out hb2
          clear hb2
          have HN2 := Lib.hid (Rd.new w2 9 1 1 [.string ⟨(quoteP a.rune).toArray⟩] rfl)
          have HO2 := Lib.hid (World.ownsRow.alloc ho3 (.cells #[.string ⟨(quoteP a.rune).toArray⟩] 9))
          have HB2 := Lib.hid (hb3.alloc hb3.size (.cells #[.string ⟨(quoteP a.rune).toArray⟩] 9))
          go_wp2_with (at_builtin; refine wpList_append_rd _ rfl (.tmp 32) (.tmp 39) 47 rfl w.heap.size 9 i0 _ 1 16 Tryd.underlying47 hi hz0 hz1 hz2 rfl (by decide) _ _ _ rfl HO2.out (w2.heap.size + 1) (some ⟨w2.heap.size, 0, none⟩) 1 1 [.string ⟨(quoteP a.rune).toArray⟩] rfl HN2.out ?s2 (by simp only [maxLen]; omega) (by omega) HB2.out.size ?_)
          case s2 => intro u hu; simp at hu; subst hu; rfl
          intro v2 w3 happ
          have HP2 := Lib.hid (OwnT.push hX W1 happ)
          have HQ2 := Lib.hid (HB2.out.trans (happ.below HB2.out.size HO2.out))
          clear happ HN2 HO2 HB2
          go_wp2_with fail
          refine ⟨⟨k + 1, W1 ++ [itemW a], by omega, by go_num, HP2.out, ?_, by simp; omega, HQ2.out⟩, by simp [intOf]; omega⟩
          rw [HG.out, ← HW1.out]
          simp
        · rw [hk1] at d0
          have hX : (⟨(itemW a).toArray⟩ : ByteArray) = (printP a.set).1 := by unfold itemW setW; rw [hk1, if_neg (by decide), if_pos rfl, ba_list]
          have hn63 : n' ≤ 9223372036854775807 := by unfold maxLen at hn'; omega
          have hs1 : RdS w1 w1.heap.size A' n' a.set := Rd.more (Rd.below hset HQ1.out) HQ1.out.size
          clear hk1 hk2
          go_wp2_with fail
          refine (ref_print A' n' c' a.set _ hn63 hs1).mono ?_
          rintro e w2 ⟨rfl, hb2⟩
          have hb3 := HQ1.out.trans (hb2.mono HQ1.out.size)
          have ho3 : OwnT w2 w.heap.size _ _ := own_below HPW.out hb2
          clear hb2 hs1
          have HN2 := Lib.hid (Rd.new w2 9 1 1 [.string (printP a.set).1] rfl)
          have HO2 := Lib.hid (World.ownsRow.alloc ho3 (.cells #[.string (printP a.set).1] 9))
          have HB2 := Lib.hid (hb3.alloc hb3.size (.cells #[.string (printP a.set).1] 9))
          go_wp2_with (at_builtin; refine wpList_append_rd _ rfl (.tmp 52) (.tmp 54) 47 rfl w.heap.size 9 i0 _ 1 16 Tryd.underlying47 hi hz0 hz1 hz2 rfl (by decide) _ _ _ rfl HO2.out (w2.heap.size + 1) (some ⟨w2.heap.size, 0, none⟩) 1 1 [.string (printP a.set).1] rfl HN2.out ?s2 (by simp only [maxLen]; omega) (by omega) HB2.out.size ?_)
          case s2 => intro u hu; simp at hu; subst hu; rfl
          intro v2 w3 happ
          have HP2 := Lib.hid (OwnT.push hX W1 happ)
          have HQ2 := Lib.hid (HB2.out.trans (happ.below HB2.out.size HO2.out))
          clear happ HN2 HO2 HB2
          go_wp2_with fail
          refine ⟨⟨k + 1, W1 ++ [itemW a], by omega, by go_num, HP2.out, ?_, by simp; omega, HQ2.out⟩, by simp [intOf]; omega⟩
          rw [HG.out, ← HW1.out]
          simp
        · rw [hk1] at d0
          have hnl := named_len hk2
          have hX : (⟨(itemW a).toArray⟩ : ByteArray) = ⟨#[36]⟩ ++ a.name := by
            unfold itemW
            rw [hk1, if_neg (by decide), if_neg (by decide)]
            apply ByteArray.ext
            simp
          clear hk1 hk2
          have HN2 := Lib.hid (Rd.new w1 9 1 1 [.string (⟨#[36]⟩ ++ a.name)] rfl)
          have HO2 := Lib.hid (World.ownsRow.alloc HPW.out (.cells #[.string (⟨#[36]⟩ ++ a.name)] 9))
          have HB2 := Lib.hid (HQ1.out.alloc HQ1.out.size (.cells #[.string (⟨#[36]⟩ ++ a.name)] 9))
          go_wp2_with (at_builtin; refine wpList_append_rd _ rfl (.tmp 58) (.tmp 65) 47 rfl w.heap.size 9 i0 _ 1 16 Tryd.underlying47 hi hz0 hz1 hz2 rfl (by decide) _ _ _ rfl HO2.out (w1.heap.size + 1) (some ⟨w1.heap.size, 0, none⟩) 1 1 [.string (⟨#[36]⟩ ++ a.name)] rfl HN2.out ?s2 (by simp only [maxLen]; omega) (by omega) HB2.out.size ?_)
          case s2 => intro u hu; simp at hu; subst hu; rfl
          intro v2 w3 happ
          have HP2 := Lib.hid (OwnT.push hX W1 happ)
          have HQ2 := Lib.hid (HB2.out.trans (happ.below HB2.out.size HO2.out))
          clear happ HN2 HO2 HB2
          go_wp2_with fail
          refine ⟨⟨k + 1, W1 ++ [itemW a], by omega, by go_num, HP2.out, ?_, by simp; omega, HQ2.out⟩, by simp [intOf]; omega⟩
          rw [HG.out, ← HW1.out]
          simp
      · have hc2 : ((k : Int) == cursor) = false := by simpa using hc
        rw [if_neg hc] at hgo
        have HG := Lib.hid hgo
        have HP1 := Lib.hid hO
        have HQ1 := Lib.hid hb
        clear hgo hO hc
        have d0 := (HQ1.out.cell (p := ⟨b, off + k * 4, none⟩) hbb).trans f0
        have d1 := (HQ1.out.cell (p := ⟨b, off + k * 4 + 1, none⟩) hbb).trans f1
        have d2 := (HQ1.out.cell (p := ⟨b, off + k * 4 + 2, none⟩) hbb).trans f2
        have d3 := (HQ1.out.cell (p := ⟨b, off + k * 4 + 3, none⟩) hbb).trans f3
        clear f0 f1 f2 f3
        rcases hka with ⟨hk1, hk2⟩ | ⟨hk1, hk2⟩ | ⟨hk1, hk2⟩
        · rw [hk1] at d0
          obtain ⟨hr0, hr1⟩ := right_range hk2
          have hX : (⟨(itemW a).toArray⟩ : ByteArray) = ⟨(quoteP a.rune).toArray⟩ := by unfold itemW; rw [if_pos hk1]
          clear hk1 hk2
          go_wp2_with fail
          refine (ref_quote a.rune hr0 hr1 _).mono ?_
          rintro e w2 ⟨rfl, hb2⟩
          have hb3 := HQ1.out.trans (hb2.mono HQ1.out.size)
          have ho3 : OwnT w2 w.heap.size _ _ := own_below HP1.out hb2
          clear hb2
          have HN2 := Lib.hid (Rd.new w2 9 1 1 [.string ⟨(quoteP a.rune).toArray⟩] rfl)
          have HO2 := Lib.hid (World.ownsRow.alloc ho3 (.cells #[.string ⟨(quoteP a.rune).toArray⟩] 9))
          have HB2 := Lib.hid (hb3.alloc hb3.size (.cells #[.string ⟨(quoteP a.rune).toArray⟩] 9))
          go_wp2_with (at_builtin; refine wpList_append_rd _ rfl (.tmp 32) (.tmp 39) 47 rfl w.heap.size 9 i0 _ 1 16 Tryd.underlying47 hi hz0 hz1 hz2 rfl (by decide) _ _ _ rfl HO2.out (w2.heap.size + 1) (some ⟨w2.heap.size, 0, none⟩) 1 1 [.string ⟨(quoteP a.rune).toArray⟩] rfl HN2.out ?s2 (by simp only [maxLen]; omega) (by omega) HB2.out.size ?_)
          case s2 => intro u hu; simp at hu; subst hu; rfl
          intro v2 w3 happ
          have HP2 := Lib.hid (OwnT.push hX W happ)
          have HQ2 := Lib.hid (HB2.out.trans (happ.below HB2.out.size HO2.out))
          clear happ HN2 HO2 HB2
          go_wp2_with fail
          refine ⟨⟨k + 1, W ++ [itemW a], by omega, by go_num, HP2.out, ?_, by simp; omega, HQ2.out⟩, by simp [intOf]; omega⟩
          rw [HG.out]
          simp
        · rw [hk1] at d0
          have hX : (⟨(itemW a).toArray⟩ : ByteArray) = (printP a.set).1 := by unfold itemW setW; rw [hk1, if_neg (by decide), if_pos rfl, ba_list]
          have hn63 : n' ≤ 9223372036854775807 := by unfold maxLen at hn'; omega
          have hs1 : RdS wr wr.heap.size A' n' a.set := Rd.more (Rd.below hset HQ1.out) HQ1.out.size
          clear hk1 hk2
          go_wp2_with fail
          refine (ref_print A' n' c' a.set _ hn63 hs1).mono ?_
          rintro e w2 ⟨rfl, hb2⟩
          have hb3 := HQ1.out.trans (hb2.mono HQ1.out.size)
          have ho3 : OwnT w2 w.heap.size _ _ := own_below HP1.out hb2
          clear hb2 hs1
          have HN2 := Lib.hid (Rd.new w2 9 1 1 [.string (printP a.set).1] rfl)
          have HO2 := Lib.hid (World.ownsRow.alloc ho3 (.cells #[.string (printP a.set).1] 9))
          have HB2 := Lib.hid (hb3.alloc hb3.size (.cells #[.string (printP a.set).1] 9))
          go_wp2_with (at_builtin; refine wpList_append_rd _ rfl (.tmp 52) (.tmp 54) 47 rfl w.heap.size 9 i0 _ 1 16 Tryd.underlying47 hi hz0 hz1 hz2 rfl (by decide) _ _ _ rfl HO2.out (w2.heap.size + 1) (some ⟨w2.heap.size, 0, none⟩) 1 1 [.string (printP a.set).1] rfl HN2.out ?s2 (by simp only [maxLen]; omega) (by omega) HB2.out.size ?_)
          case s2 => intro u hu; simp at hu; subst hu; rfl
          intro v2 w3 happ
          have HP2 := Lib.hid (OwnT.push hX W happ)
          have HQ2 := Lib.hid (HB2.out.trans (happ.below HB2.out.size HO2.out))
          clear happ HN2 HO2 HB2
          go_wp2_with fail
          refine ⟨⟨k + 1, W ++ [itemW a], by omega, by go_num, HP2.out, ?_, by simp; omega, HQ2.out⟩, by simp [intOf]; omega⟩
          rw [HG.out]
          simp
        · rw [hk1] at d0
          have hnl := named_len hk2
          have hX : (⟨(itemW a).toArray⟩ : ByteArray) = ⟨#[36]⟩ ++ a.name := by
            unfold itemW
            rw [hk1, if_neg (by decide), if_neg (by decide)]
            apply ByteArray.ext
            simp
          clear hk1 hk2
          have HN2 := Lib.hid (Rd.new wr 9 1 1 [.string (⟨#[36]⟩ ++ a.name)] rfl)
          have HO2 := Lib.hid (World.ownsRow.alloc HP1.out (.cells #[.string (⟨#[36]⟩ ++ a.name)] 9))
          have HB2 := Lib.hid (HQ1.out.alloc HQ1.out.size (.cells #[.string (⟨#[36]⟩ ++ a.name)] 9))
          go_wp2_with (at_builtin; refine wpList_append_rd _ rfl (.tmp 58) (.tmp 65) 47 rfl w.heap.size 9 i0 _ 1 16 Tryd.underlying47 hi hz0 hz1 hz2 rfl (by decide) _ _ _ rfl HO2.out (wr.heap.size + 1) (some ⟨wr.heap.size, 0, none⟩) 1 1 [.string (⟨#[36]⟩ ++ a.name)] rfl HN2.out ?s2 (by simp only [maxLen]; omega) (by omega) HB2.out.size ?_)
          case s2 => intro u hu; simp at hu; subst hu; rfl
          intro v2 w3 happ
          have HP2 := Lib.hid (OwnT.push hX W happ)
          have HQ2 := Lib.hid (HB2.out.trans (happ.below HB2.out.size HO2.out))
          clear happ HN2 HO2 HB2
          go_wp2_with fail
          refine ⟨⟨k + 1, W ++ [itemW a], by omega, by go_num, HP2.out, ?_, by simp; omega, HQ2.out⟩, by simp [intOf]; omega⟩
          rw [HG.out]
          simp
    · obtain rfl : k = n := by omega
      rw [List.drop_of_length_le (by rw [HLEN.out]; omega), wordsGo] at hgo
      have hkn : ((k : Int) == (k : Int)) = true := by simp
      obtain ⟨AO, cO, rfl, _⟩ := own_form hO
      by_cases hc : (k : Int) = cursor
      · have hc2 : ((k : Int) == cursor) = true := by simpa using hc
        rw [if_pos hc] at hgo
        have HG := Lib.hid hgo
        have HOW := Lib.hid hO
        clear hgo hO hc
        have HN1 := Lib.hid (Rd.new wr 9 1 1 [.string ⟨#[124]⟩] rfl)
        have HO1 := Lib.hid (World.ownsRow.alloc HOW.out (.cells #[.string ⟨#[124]⟩] 9))
        have HB1 := Lib.hid (hb.alloc hb.size (.cells #[.string ⟨#[124]⟩] 9))
        go_wp2_with (at_builtin; refine wpList_append_rd _ rfl (.tmp 18) (.tmp 19) 47 rfl w.heap.size 9 i0 _ 1 16 Tryd.underlying47 hi hz0 hz1 hz2 rfl (by decide) _ _ _ rfl HO1.out (wr.heap.size + 1) (some ⟨wr.heap.size, 0, none⟩) 1 1 [.string ⟨#[124]⟩] rfl HN1.out ?s1 (by simp only [maxLen]; omega) (by omega) HB1.out.size ?_)
        case s1 => intro u hu; simp at hu; subst hu; rfl
        intro v1 w1 happ
        have HP1 := Lib.hid (OwnT.push (x := [124]) rfl W happ)
        have HQ1 := Lib.hid (HB1.out.trans (happ.below HB1.out.size HO1.out))
        clear happ HN1 HO1 HB1
        go_wp2_with fail
        go_ret
        exact ⟨⟨_, rfl, by rw [HG.out]; exact HP1.out⟩, HQ1.out⟩
      · have hc2 : ((k : Int) == cursor) = false := by simpa using hc
        rw [if_neg hc, List.append_nil] at hgo
        have HG := Lib.hid hgo
        have HOW := Lib.hid hO
        clear hgo hO hc
        go_wp2_with fail
        go_ret
        exact ⟨⟨_, rfl, by rw [HG.out]; exact HOW.out⟩, hb⟩

end Go.Proofs.YtdfljicijfceeaaDoor
