/- ItemsText + Put + WrittenPut -/
import Derived.Test.YthnhbcohfoodlaaGreatDoorZt20
import Derived.Test.YthnhbcohfoodlaaGreatDoorZt21
import Derived.Test.YthnhbcohfoodlaaGreatDoorZt14
import Derived.Test.YthnhbcohfoodlaaGreatDoorZt18
namespace Go.Proofs.YthnhbcohfoodlaaGreatDoor
open Go.RowKit Go.Shelf
theorem Blk.appended {w w' : World} {g base sz n m : Nat} {t e : TypeId} {cs : Array Value} {v v' : Value} {xs ys : List Value} (h : Blk w g t cs) (ho : w.ownsRow base e sz v n xs) (hne : t ≠ e) (ha : Appended base e sz v w m ys v' w') : Blk w' g t cs := by
 have hlt := h.lt
 unfold Blk at h ⊢
 rw [ha.2.1.block g hlt ?_]
 ·exact h
 ·intro he
  rcases ho.2 with ⟨rfl, _⟩ | ⟨g2, cap, cur, rfl, _, hg, _⟩
  ·simp [Value.ownBlock] at he
  ·simp only [Value.ownBlock, Option.some.injEq] at he
   subst he
   rw [h] at hg
   injection hg with hg
   injection hg with _ ht
   exact hne ht
theorem itemW_len {a : ItemD} (h : itemP a = 0) : (itemW a).length ≤ 4300 := by
 unfold itemW
 rcases item_kinds h with ⟨h1, h2⟩ | ⟨h1, h2⟩ | ⟨h1, h2⟩
 ·rw [if_pos h1]
  have := right_range h2
  have := quote_len a.rune this.1 this.2
  omega
 ·rw [h1, if_neg (by decide), if_pos rfl]
  obtain ⟨h3, h4⟩ := wrongP_ok h2
  have := print_len a.set h4
  unfold setW printP
  rw [if_pos h2]
  simp
  omega
 ·rw [h1, if_neg (by decide), if_neg (by decide)]
  have := named_len h2
  have e : a.name.data.toList.length = a.name.size := rfl
  rw [List.length_cons, e]
  omega
theorem wordsGo_ok (cursor : Int) (l : List ItemD) : ∀ i, (∀ a ∈ l, itemP a = 0) → (wordsGo cursor i l).length ≤ 2 * l.length + 1 ∧ ∀ x ∈ wordsGo cursor i l, x.length ≤ 4300 := by
 induction l with
 | nil =>
   intro i _
   unfold wordsGo
   split <;> simp
 | cons a l ih =>
   intro i h
   obtain ⟨h1, h2⟩ := ih (i + 1) (fun x hx => h x (by simp [hx]))
   have h3 := itemW_len (h a (by simp))
   unfold wordsGo
   split
   ·refine ⟨by simp; omega, fun x hx => ?_⟩
    simp at hx
    rcases hx with rfl | rfl | hx
    ·simp
    ·exact h3
    ·exact h2 x hx
   ·refine ⟨by simp; omega, fun x hx => ?_⟩
    simp at hx
    rcases hx with rfl | hx
    ·exact h3
    ·exact h2 x hx
set_option maxRecDepth 100000 in
set_option maxHeartbeats 3200000 in
theorem rulesyn_items (A : Option Addr) (n c : Nat) (l : List ItemD) (cursor : Int) (w : World) (hl : RdIt w w.heap.size A n l) (hok : itemsP l = 0) (hd : w.cell? ⟨5, 15, none⟩ = some (.int .u8 4)) (hlt0 : 5 < w.heap.size) :
 Calls Tryz.prog 108 #[.slice A n c, .int .i64 cursor] w fun e w' => e = .returned (.string ⟨(Lib.join (wordsP l cursor) [32]).toArray⟩) ∧ Below w.heap.size w w' := by
 obtain ⟨i0, hi, hz0, hz1, hz2⟩ := info_parts infoStr
 obtain ⟨h20, hall⟩ := items_ok hok
 obtain ⟨hwl, hwx⟩ := wordsGo_ok cursor l 0 hall
 have hjl := join_len (wordsP l cursor) 4300 hwx
 have hjl2 : (Lib.join (wordsP l cursor) [32]).length ≤ 140737488355328 := Nat.le_trans hjl (Nat.le_trans (Nat.mul_le_mul_right _ hwl) (by omega))
 have hn20 : n ≤ 20 := by rw [← RdL.len hl]; exact h20
 have HLEN := Lib.hid (RdL.len hl)
 have HL := Lib.hid hl
 have HA := Lib.hid hall
 have HD := Lib.hid hd
 have HDL := Lib.hid hlt0
 have HJ := Lib.hid hjl2
 have HWL := Lib.hid hwl
 clear hl hok h20 hall hd hlt0 hjl hjl2 hwl hwx
 go_enter Tryz.func108, Tryz.ntmps108
 go_wp2_with fail
 go_loopw [5, 12] (WdRel w l cursor n) (fun _ i _ => n - (intOf i).toNat)
 case atStart => exact ⟨0, [], Nat.zero_le _, rfl, OwnT.nil _ _, rfl, Nat.zero_le _, Below.refl _ _⟩
 case round =>
  obtain ⟨k, W, hk, rfl, hO, hgo, hWl, hb⟩ := hrel
  have hz := hb.size
  by_cases hlt : k < n
  ·obtain ⟨a, ha⟩ : ∃ z, l[k]? = some z := ⟨_, List.getElem?_eq_getElem (by rw [HLEN.out]; exact hlt)⟩
   have hka := item_kinds (HA.out a (List.mem_of_getElem? ha))
   rw [drop_at ha, wordsGo] at hgo
   obtain ⟨b, off, A', n', c', rfl, hbb, f0, f1, f2, f3, hset, hn', _, hnm⟩ := item_at HL.out ha
   have d0 := (hb.cell (p := ⟨b, off + k * 4, none⟩) hbb).trans f0
   have d1 := (hb.cell (p := ⟨b, off + k * 4 + 1, none⟩) hbb).trans f1
   have d2 := (hb.cell (p := ⟨b, off + k * 4 + 2, none⟩) hbb).trans f2
   have d3 := (hb.cell (p := ⟨b, off + k * 4 + 3, none⟩) hbb).trans f3
   have hbw := hb.alloc hz (.cells #[.int .i64 a.kind, .int .i32 a.rune, .slice A' n' c', .string a.name] 114)
   have hOw : OwnT _ _ _ _ := World.ownsRow.alloc hO (.cells #[.int .i64 a.kind, .int .i32 a.rune, .slice A' n' c', .string a.name] 114)
   have hKw := Blk.new wr 114 #[.int .i64 a.kind, .int .i32 a.rune, .slice A' n' c', .string a.name]
   clear f0 f1 f2 f3 hO
   obtain ⟨AO, cO, rfl, _⟩ := own_form hOw
   by_cases hc : (k : Int) = cursor
   ·have hc2 : ((k : Int) == cursor) = true := by simpa using hc
    rw [if_pos hc] at hgo
    have HG := Lib.hid hgo
    have HOW := Lib.hid hOw
    have HKW := Lib.hid hKw
    have HBW := Lib.hid hbw
    clear hgo hOw hKw hbw hc
    have hN1 := Rd.new (wr.alloc (.cells #[.int .i64 a.kind, .int .i32 a.rune, .slice A' n' c', .string a.name] 114)) 9 1 1 [.string ⟨#[124]⟩] rfl
    rw [show (wr.alloc (.cells #[.int .i64 a.kind, .int .i32 a.rune, .slice A' n' c', .string a.name] 114)).heap.size = wr.heap.size + 1 by simp] at hN1
    have HN1 := Lib.hid hN1
    clear hN1
    have HO1 := Lib.hid (World.ownsRow.alloc HOW.out (.cells #[.string ⟨#[124]⟩] 9))
    have HB1 := Lib.hid (HBW.out.alloc HBW.out.size (.cells #[.string ⟨#[124]⟩] 9))
    go_wp2_with (at_builtin; refine wpList_append_rd _ rfl (.tmp 20) (.tmp 21) 108 rfl w.heap.size 9 i0 _ 1 16 Tryz.underlying108 hi hz0 hz1 hz2 rfl (by decide) _ _ _ rfl HO1.out ((wr.heap.size + 1) + 1) (some ⟨(wr.heap.size + 1), 0, none⟩) 1 1 [.string ⟨#[124]⟩] rfl HN1.out ?s1 (by simp only [maxLen]; omega) (by omega) HB1.out.size ?_)
    case s1 => intro u hu; simp at hu; subst hu; rfl
    intro v1 w1 happ
    have HP1 := Lib.hid (OwnT.push (x := [124]) rfl W happ)
    have HQ1 := Lib.hid (HB1.out.trans (happ.below HB1.out.size HO1.out))
    have HK1 := Lib.hid (Blk.appended (Blk.alloc HKW.out _) HO1.out (by decide) happ)
    clear happ HN1 HO1 HB1
    have hP := HP1.out
    generalize hW1 : W ++ [[124]] = W1 at hP
    have hW1l : W1.length ≤ W.length + 1 := by rw [← hW1]; simp
    have HW1 := Lib.hid hW1
    have HPW := Lib.hid hP
    clear hW1 hP HP1
    obtain ⟨AO1, cO1, rfl, _⟩ := own_form HPW.out
    have g0 : w1.cell? ⟨wr.heap.size, 0, none⟩ = some (.int .i64 a.kind) := HK1.out.cell 0
    have g1 : w1.cell? ⟨wr.heap.size, 1, none⟩ = some (.int .i32 a.rune) := HK1.out.cell 1
    have g2 : w1.cell? ⟨wr.heap.size, 2, none⟩ = some (.slice A' n' c') := HK1.out.cell 2
    have g3 : w1.cell? ⟨wr.heap.size, 3, none⟩ = some (.string a.name) := HK1.out.cell 3
    rcases hka with ⟨hk1, hk2⟩ | ⟨hk1, hk2⟩ | ⟨hk1, hk2⟩
    ·have e1 : (a.kind == 1) = true := by rw [hk1]; rfl
     obtain ⟨hr0, hr1⟩ := right_range hk2
     have hX : (⟨(itemW a).toArray⟩ : ByteArray) = ⟨(quoteP a.rune).toArray⟩ := by unfold itemW; rw [if_pos hk1]
     have hd4 := (HQ1.out.cell HDL.out).trans HD.out
     clear hk1 hk2
     go_wp2_with fail
     refine (setsyn_quote a.rune hr0 hr1 _ hd4).mono ?_
     rintro e w2 ⟨rfl, hb2⟩
     have hb3 := HQ1.out.trans (hb2.mono HQ1.out.size)
     have ho3 : OwnT w2 w.heap.size _ _ := own_below HPW.out hb2
     clear hb2 hd4
     have HN2 := Lib.hid (Rd.new w2 9 1 1 [.string ⟨(quoteP a.rune).toArray⟩] rfl)
     have HO2 := Lib.hid (World.ownsRow.alloc ho3 (.cells #[.string ⟨(quoteP a.rune).toArray⟩] 9))
     have HB2 := Lib.hid (hb3.alloc hb3.size (.cells #[.string ⟨(quoteP a.rune).toArray⟩] 9))
     go_wp2_with (at_builtin; refine wpList_append_rd _ rfl (.tmp 33) (.tmp 37) 108 rfl w.heap.size 9 i0 _ 1 16 Tryz.underlying108 hi hz0 hz1 hz2 rfl (by decide) _ _ _ rfl HO2.out (w2.heap.size + 1) (some ⟨w2.heap.size, 0, none⟩) 1 1 [.string ⟨(quoteP a.rune).toArray⟩] rfl HN2.out ?s2 (by simp only [maxLen]; omega) (by omega) HB2.out.size ?_)
     case s2 => intro u hu; simp at hu; subst hu; rfl
     intro v2 w3 happ
     have HP2 := Lib.hid (OwnT.push hX W1 happ)
     have HQ2 := Lib.hid (HB2.out.trans (happ.below HB2.out.size HO2.out))
     clear happ HN2 HO2 HB2
     go_wp2_with fail
     refine ⟨⟨k + 1, W1 ++ [itemW a], by omega, by go_num, HP2.out, ?_, by simp; omega, HQ2.out⟩, by simp [intOf]; omega⟩
     rw [HG.out, ← HW1.out]
     simp
    ·have e1 : (a.kind == 1) = false := by rw [hk1]; rfl
     have e2 : (a.kind == 2) = true := by rw [hk1]; rfl
     have hX : (⟨(itemW a).toArray⟩ : ByteArray) = (printP a.set).1 := by unfold itemW setW; rw [hk1, if_neg (by decide), if_pos rfl, ba_list]
     have hn63 : n' ≤ 9223372036854775807 := by unfold maxLen at hn'; omega
     have hd4 := (HQ1.out.cell HDL.out).trans HD.out
     have hs1 : RdS w1 w1.heap.size A' n' a.set := Rd.more (Rd.below hset HQ1.out) HQ1.out.size
     have HC := Lib.hid (setsyn_print A' n' c' a.set _ hn63 hs1 hd4 (Nat.lt_of_lt_of_le HDL.out HQ1.out.size))
     clear hk1 hk2 hs1 hd4
     go_wp2_with fail
     refine HC.out.mono ?_
     rintro e w2 ⟨rfl, hb2⟩
     have hb3 := HQ1.out.trans (hb2.mono HQ1.out.size)
     have ho3 : OwnT w2 w.heap.size _ _ := own_below HPW.out hb2
     clear hb2
     have HN2 := Lib.hid (Rd.new w2 9 1 1 [.string (printP a.set).1] rfl)
     have HO2 := Lib.hid (World.ownsRow.alloc ho3 (.cells #[.string (printP a.set).1] 9))
     have HB2 := Lib.hid (hb3.alloc hb3.size (.cells #[.string (printP a.set).1] 9))
     go_wp2_with (at_builtin; refine wpList_append_rd _ rfl (.tmp 47) (.tmp 49) 108 rfl w.heap.size 9 i0 _ 1 16 Tryz.underlying108 hi hz0 hz1 hz2 rfl (by decide) _ _ _ rfl HO2.out (w2.heap.size + 1) (some ⟨w2.heap.size, 0, none⟩) 1 1 [.string (printP a.set).1] rfl HN2.out ?s2 (by simp only [maxLen]; omega) (by omega) HB2.out.size ?_)
     case s2 => intro u hu; simp at hu; subst hu; rfl
     intro v2 w3 happ
     have HP2 := Lib.hid (OwnT.push hX W1 happ)
     have HQ2 := Lib.hid (HB2.out.trans (happ.below HB2.out.size HO2.out))
     clear happ HN2 HO2 HB2
     go_wp2_with fail
     refine ⟨⟨k + 1, W1 ++ [itemW a], by omega, by go_num, HP2.out, ?_, by simp; omega, HQ2.out⟩, by simp [intOf]; omega⟩
     rw [HG.out, ← HW1.out]
     simp
    ·have e1 : (a.kind == 1) = false := by rw [hk1]; rfl
     have e2 : (a.kind == 2) = false := by rw [hk1]; rfl
     have hnl := named_len hk2
     have hX : (⟨(itemW a).toArray⟩ : ByteArray) = ⟨#[36]⟩ ++ a.name := by
      unfold itemW
      rw [hk1, if_neg (by decide), if_neg (by decide)]
      apply ByteArray.ext
      simp
     clear hk1 hk2
     have HN2 := Lib.hid (Rd.new w1 9 1 1 [.string (⟨#[36]⟩ ++ a.name)] rfl)
     have HO2 := Lib.hid (World.ownsRow.alloc HPW.out (.cells #[.string (⟨#[36]⟩ ++ a.name)] 9))
     have HB2 := Lib.hid (HQ1.out.alloc HQ1.out.size (.cells #[.string (⟨#[36]⟩ ++ a.name)] 9))
     go_wp2_with (at_builtin; refine wpList_append_rd _ rfl (.tmp 25) (.tmp 29) 108 rfl w.heap.size 9 i0 _ 1 16 Tryz.underlying108 hi hz0 hz1 hz2 rfl (by decide) _ _ _ rfl HO2.out (w1.heap.size + 1) (some ⟨w1.heap.size, 0, none⟩) 1 1 [.string (⟨#[36]⟩ ++ a.name)] rfl HN2.out ?s2 (by simp only [maxLen]; omega) (by omega) HB2.out.size ?_)
     case s2 => intro u hu; simp at hu; subst hu; rfl
     intro v2 w3 happ
     have HP2 := Lib.hid (OwnT.push hX W1 happ)
     have HQ2 := Lib.hid (HB2.out.trans (happ.below HB2.out.size HO2.out))
     clear happ HN2 HO2 HB2
     go_wp2_with fail
     refine ⟨⟨k + 1, W1 ++ [itemW a], by omega, by go_num, HP2.out, ?_, by simp; omega, HQ2.out⟩, by simp [intOf]; omega⟩
     rw [HG.out, ← HW1.out]
     simp
   ·have hc2 : ((k : Int) == cursor) = false := by simpa using hc
    rw [if_neg hc] at hgo
    have HG := Lib.hid hgo
    have HOW := Lib.hid hOw
    have HKW := Lib.hid hKw
    have HBW := Lib.hid hbw
    clear hgo hOw hKw hbw hc
    rcases hka with ⟨hk1, hk2⟩ | ⟨hk1, hk2⟩ | ⟨hk1, hk2⟩
    ·have e1 : (a.kind == 1) = true := by rw [hk1]; rfl
     obtain ⟨hr0, hr1⟩ := right_range hk2
     have hX : (⟨(itemW a).toArray⟩ : ByteArray) = ⟨(quoteP a.rune).toArray⟩ := by unfold itemW; rw [if_pos hk1]
     have hd4 := (HBW.out.cell HDL.out).trans HD.out
     clear hk1 hk2
     go_wp2_with fail
     refine (setsyn_quote a.rune hr0 hr1 _ hd4).mono ?_
     rintro e w2 ⟨rfl, hb2⟩
     have hb3 := HBW.out.trans (hb2.mono HBW.out.size)
     have ho3 : OwnT w2 w.heap.size _ _ := own_below HOW.out hb2
     clear hb2 hd4
     have HN2 := Lib.hid (Rd.new w2 9 1 1 [.string ⟨(quoteP a.rune).toArray⟩] rfl)
     have HO2 := Lib.hid (World.ownsRow.alloc ho3 (.cells #[.string ⟨(quoteP a.rune).toArray⟩] 9))
     have HB2 := Lib.hid (hb3.alloc hb3.size (.cells #[.string ⟨(quoteP a.rune).toArray⟩] 9))
     go_wp2_with (at_builtin; refine wpList_append_rd _ rfl (.tmp 33) (.tmp 37) 108 rfl w.heap.size 9 i0 _ 1 16 Tryz.underlying108 hi hz0 hz1 hz2 rfl (by decide) _ _ _ rfl HO2.out (w2.heap.size + 1) (some ⟨w2.heap.size, 0, none⟩) 1 1 [.string ⟨(quoteP a.rune).toArray⟩] rfl HN2.out ?s2 (by simp only [maxLen]; omega) (by omega) HB2.out.size ?_)
     case s2 => intro u hu; simp at hu; subst hu; rfl
     intro v2 w3 happ
     have HP2 := Lib.hid (OwnT.push hX W happ)
     have HQ2 := Lib.hid (HB2.out.trans (happ.below HB2.out.size HO2.out))
     clear happ HN2 HO2 HB2
     go_wp2_with fail
     refine ⟨⟨k + 1, W ++ [itemW a], by omega, by go_num, HP2.out, ?_, by simp; omega, HQ2.out⟩, by simp [intOf]; omega⟩
     rw [HG.out]
     simp
    ·have e1 : (a.kind == 1) = false := by rw [hk1]; rfl
     have e2 : (a.kind == 2) = true := by rw [hk1]; rfl
     have hX : (⟨(itemW a).toArray⟩ : ByteArray) = (printP a.set).1 := by unfold itemW setW; rw [hk1, if_neg (by decide), if_pos rfl, ba_list]
     have hn63 : n' ≤ 9223372036854775807 := by unfold maxLen at hn'; omega
     have hd4 := (HBW.out.cell HDL.out).trans HD.out
     have hs1 : RdS (wr.alloc (.cells #[.int .i64 a.kind, .int .i32 a.rune, .slice A' n' c', .string a.name] 114)) (wr.alloc (.cells #[.int .i64 a.kind, .int .i32 a.rune, .slice A' n' c', .string a.name] 114)).heap.size A' n' a.set := Rd.more (Rd.below hset HBW.out) HBW.out.size
     have HC := Lib.hid (setsyn_print A' n' c' a.set _ hn63 hs1 hd4 (Nat.lt_of_lt_of_le HDL.out HBW.out.size))
     clear hk1 hk2 hs1 hd4
     go_wp2_with fail
     refine HC.out.mono ?_
     rintro e w2 ⟨rfl, hb2⟩
     have hb3 := HBW.out.trans (hb2.mono HBW.out.size)
     have ho3 : OwnT w2 w.heap.size _ _ := own_below HOW.out hb2
     clear hb2
     have HN2 := Lib.hid (Rd.new w2 9 1 1 [.string (printP a.set).1] rfl)
     have HO2 := Lib.hid (World.ownsRow.alloc ho3 (.cells #[.string (printP a.set).1] 9))
     have HB2 := Lib.hid (hb3.alloc hb3.size (.cells #[.string (printP a.set).1] 9))
     go_wp2_with (at_builtin; refine wpList_append_rd _ rfl (.tmp 47) (.tmp 49) 108 rfl w.heap.size 9 i0 _ 1 16 Tryz.underlying108 hi hz0 hz1 hz2 rfl (by decide) _ _ _ rfl HO2.out (w2.heap.size + 1) (some ⟨w2.heap.size, 0, none⟩) 1 1 [.string (printP a.set).1] rfl HN2.out ?s2 (by simp only [maxLen]; omega) (by omega) HB2.out.size ?_)
     case s2 => intro u hu; simp at hu; subst hu; rfl
     intro v2 w3 happ
     have HP2 := Lib.hid (OwnT.push hX W happ)
     have HQ2 := Lib.hid (HB2.out.trans (happ.below HB2.out.size HO2.out))
     clear happ HN2 HO2 HB2
     go_wp2_with fail
     refine ⟨⟨k + 1, W ++ [itemW a], by omega, by go_num, HP2.out, ?_, by simp; omega, HQ2.out⟩, by simp [intOf]; omega⟩
     rw [HG.out]
     simp
    ·have e1 : (a.kind == 1) = false := by rw [hk1]; rfl
     have e2 : (a.kind == 2) = false := by rw [hk1]; rfl
     have hnl := named_len hk2
     have hX : (⟨(itemW a).toArray⟩ : ByteArray) = ⟨#[36]⟩ ++ a.name := by
      unfold itemW
      rw [hk1, if_neg (by decide), if_neg (by decide)]
      apply ByteArray.ext
      simp
     clear hk1 hk2
     have hN2 := Rd.new (wr.alloc (.cells #[.int .i64 a.kind, .int .i32 a.rune, .slice A' n' c', .string a.name] 114)) 9 1 1 [.string (⟨#[36]⟩ ++ a.name)] rfl
     rw [show (wr.alloc (.cells #[.int .i64 a.kind, .int .i32 a.rune, .slice A' n' c', .string a.name] 114)).heap.size = wr.heap.size + 1 by simp] at hN2
     have HN2 := Lib.hid hN2
     clear hN2
     have HO2 := Lib.hid (World.ownsRow.alloc HOW.out (.cells #[.string (⟨#[36]⟩ ++ a.name)] 9))
     have HB2 := Lib.hid (HBW.out.alloc HBW.out.size (.cells #[.string (⟨#[36]⟩ ++ a.name)] 9))
     go_wp2_with (at_builtin; refine wpList_append_rd _ rfl (.tmp 25) (.tmp 29) 108 rfl w.heap.size 9 i0 _ 1 16 Tryz.underlying108 hi hz0 hz1 hz2 rfl (by decide) _ _ _ rfl HO2.out ((wr.heap.size + 1) + 1) (some ⟨(wr.heap.size + 1), 0, none⟩) 1 1 [.string (⟨#[36]⟩ ++ a.name)] rfl HN2.out ?s2 (by simp only [maxLen]; omega) (by omega) HB2.out.size ?_)
     case s2 => intro u hu; simp at hu; subst hu; rfl
     intro v2 w3 happ
     have HP2 := Lib.hid (OwnT.push hX W happ)
     have HQ2 := Lib.hid (HB2.out.trans (happ.below HB2.out.size HO2.out))
     clear happ HN2 HO2 HB2
     go_wp2_with fail
     refine ⟨⟨k + 1, W ++ [itemW a], by omega, by go_num, HP2.out, ?_, by simp; omega, HQ2.out⟩, by simp [intOf]; omega⟩
     rw [HG.out]
     simp
  ·obtain rfl : k = n := by omega
   rw [List.drop_of_length_le (by rw [HLEN.out]; omega), wordsGo] at hgo
   have hWL2 := HWL.out
   rw [HLEN.out] at hWL2
   obtain ⟨AO, cO, rfl, _⟩ := own_form hO
   by_cases hc : (k : Int) = cursor
   ·have hc2 : (cursor == (k : Int)) = true := by simpa using hc.symm
    rw [if_pos hc] at hgo
    have HG := Lib.hid hgo
    have HOW := Lib.hid hO
    clear hgo hO hc
    have HN1 := Lib.hid (Rd.new wr 9 1 1 [.string ⟨#[124]⟩] rfl)
    have HO1 := Lib.hid (World.ownsRow.alloc HOW.out (.cells #[.string ⟨#[124]⟩] 9))
    have HB1 := Lib.hid (hb.alloc hb.size (.cells #[.string ⟨#[124]⟩] 9))
    go_wp2_with (at_builtin; refine wpList_append_rd _ rfl (.tmp 56) (.tmp 57) 108 rfl w.heap.size 9 i0 _ 1 16 Tryz.underlying108 hi hz0 hz1 hz2 rfl (by decide) _ _ _ rfl HO1.out (wr.heap.size + 1) (some ⟨wr.heap.size, 0, none⟩) 1 1 [.string ⟨#[124]⟩] rfl HN1.out ?s1 (by simp only [maxLen]; omega) (by omega) HB1.out.size ?_)
    case s1 => intro u hu; simp at hu; subst hu; rfl
    intro v1 w1 happ
    have HP1 := Lib.hid (OwnT.push (x := [124]) rfl W happ)
    have HQ1 := Lib.hid (HB1.out.trans (happ.below HB1.out.size HO1.out))
    clear happ HN1 HO1 HB1
    have hP := HP1.out
    rw [← HG.out] at hP
    obtain ⟨AO1, cO1, rfl, _⟩ := own_form hP
    have HC := Lib.hid (join_owned AO1 _ cO1 _ _ w1 hP rfl (Nat.le_trans HWL.out (by rw [HLEN.out]; omega)) HJ.out)
    clear hP HP1
    go_wp2_with fail
    refine HC.out.mono ?_
    rintro e w2 ⟨rfl, hb2⟩
    have hb3 := HQ1.out.trans (hb2.mono HQ1.out.size)
    clear hb2
    go_wp2_with fail
    go_ret
    exact ⟨rfl, hb3⟩
   ·have hc2 : (cursor == (k : Int)) = false := by simp; exact fun h => hc h.symm
    rw [if_neg hc, List.append_nil] at hgo
    have hP := hO
    rw [← hgo] at hP
    have HC := Lib.hid (join_owned AO _ cO _ _ wr hO rfl (by omega) (by rw [← hgo]; exact HJ.out))
    have HG := Lib.hid hgo
    clear hgo hO hc hP
    go_wp2_with fail
    refine HC.out.mono ?_
    rintro e w2 ⟨rfl, hb2⟩
    have hb3 := hb.trans (hb2.mono hb.size)
    clear hb2
    go_wp2_with fail
    go_ret
    rw [HG.out]
    exact ⟨rfl, hb3⟩
end Go.Proofs.YthnhbcohfoodlaaGreatDoor

namespace Go.Proofs.YthnhbcohfoodlaaGreatDoor
open Go.RowKit
def PutPost (w : World) (base g : Nat) (W : List (List UInt8)) (w' : World) : Prop :=
 (∃ v', Blk w' g 108 #[v'] ∧ OwnT w' base v' W) ∧ Below base w w' ∧ ∀ (g2 : Nat) (t : TypeId) (cs : Array Value), g2 ≠ g → t ≠ 9 → Blk w g2 t cs → Blk w' g2 t cs
theorem own_setCell_other {w : World} {base g : Nat} {v u : Value} {W : List (List UInt8)} {cs : Array Value} (h : OwnT w base v W) (hb : Blk w g 108 cs) (i : Nat) : OwnT (w.setCell ⟨g, i, none⟩ u) base v W := by
 rcases h.2 with ⟨hv, h0⟩ | ⟨k, cap, cur, hv, h1, h2, h3⟩
 ·exact ⟨h.1, .inl ⟨hv, h0⟩⟩
 ·refine ⟨h.1, .inr ⟨k, cap, cur, hv, h1, ?_, h3⟩⟩
  rw [Below.heap_setCell _ _ _ _ ?_]
  ·exact h2
  ·intro e
   simp only at e
   subst e
   unfold Blk at hb
   rw [hb] at h2
   injection h2 with h2
   injection h2 with _ ht
   exact absurd ht (by decide)
theorem blk_setCell_other {w : World} {g g2 i : Nat} {u : Value} {t : TypeId} {cs : Array Value} (h : Blk w g2 t cs) (hne : g2 ≠ g) : Blk (w.setCell ⟨g, i, none⟩ u) g2 t cs := by
 unfold Blk at h ⊢
 rw [Below.heap_setCell _ _ _ _ hne]
 exact h
set_option maxRecDepth 100000 in
set_option maxHeartbeats 800000 in
theorem put_text (base g : Nat) (x : List UInt8) (W : List (List UInt8)) (v : Value) (w : World) (hg : Blk w g 108 #[v]) (hO : OwnT w base v W) (hbg : base ≤ g) (hbz : base ≤ w.heap.size) (hW : W.length ≤ 1000) :
 Calls Tryz.prog 107 #[.string ⟨x.toArray⟩, .pointer (some ⟨g, 0, none⟩)] w fun e w' => e = .returned (.tuple #[]) ∧ PutPost w base g (if x = [] then W else W ++ [x]) w' := by
 obtain ⟨i0, hi, hz0, hz1, hz2⟩ := info_parts infoStr
 by_cases hx : x = []
 ·subst hx
  rw [if_pos rfl]
  have HG := Lib.hid hg
  have HO := Lib.hid hO
  clear hg hO
  go_enter Tryz.func107, Tryz.ntmps107
  go_wp2_with fail
  go_end0
  exact ⟨rfl, ⟨v, HG.out, HO.out⟩, Below.refl _ _, fun _ _ _ _ _ h => h⟩
 ·rw [if_neg hx]
  have hne : x.isEmpty = false := by simpa using hx
  have c0 : w.cell? ⟨g, 0, none⟩ = some v := hg.cell 0
  obtain ⟨AO, cO, rfl, _⟩ := own_form hO
  have HN := Lib.hid (Rd.new w 9 1 1 [.string ⟨x.toArray⟩] rfl)
  have HO := Lib.hid (World.ownsRow.alloc hO (.cells #[.string ⟨x.toArray⟩] 9))
  have HB := Lib.hid ((Below.refl base w).alloc hbz (.cells #[.string ⟨x.toArray⟩] 9))
  have HG := Lib.hid (Blk.alloc hg (.cells #[.string ⟨x.toArray⟩] 9))
  have HZ := Lib.hid (fun (g2 : Nat) (t : TypeId) (cs : Array Value) (h : Blk w g2 t cs) => Blk.alloc h (.cells #[.string ⟨x.toArray⟩] 9))
  clear hg hO
  go_enter Tryz.func107, Tryz.ntmps107
  go_wp2_with (at_builtin; refine wpList_append_rd _ rfl (.tmp 5) (.tmp 7) 108 rfl base 9 i0 _ 1 16 Tryz.underlying108 hi hz0 hz1 hz2 rfl (by decide) _ _ _ rfl HO.out (w.heap.size + 1) (some ⟨w.heap.size, 0, none⟩) 1 1 [.string ⟨x.toArray⟩] rfl HN.out ?s1 (by simp only [maxLen]; omega) (by omega) (Nat.le_trans hbz HB.out.size) ?_)
  case s1 => intro u hu; simp at hu; subst hu; rfl
  intro v' w2 happ
  have hG2 := Blk.appended HG.out HO.out (by decide) happ
  have hO2 := OwnT.push (x := x) rfl W happ
  have hB2 := HB.out.trans (happ.below (Nat.le_trans hbz HB.out.size) HO.out)
  have HK2 := Lib.hid (fun (g2 : Nat) (t : TypeId) (cs : Array Value) (ht : t ≠ 9) (h : Blk w g2 t cs) => Blk.appended (HZ.out g2 t cs h) HO.out ht happ)
  have q0 : w2.cell? ⟨g, 0, none⟩ = some _ := hG2.cell 0
  have q1 := hG2.frozen 0
  clear happ
  obtain ⟨A2, c2, rfl, _⟩ := own_form hO2
  have HG2 := Lib.hid hG2
  have HO2 := Lib.hid hO2
  have HB2 := Lib.hid hB2
  clear hG2 hO2 hB2
  go_wp2_with fail
  go_end0
  refine ⟨rfl, ⟨_, ?_, own_setCell_other HO2.out HG2.out 0⟩, HB2.out.setCell hbg _, fun g2 t cs h1 h2 h3 => blk_setCell_other (HK2.out g2 t cs h2 h3) h1⟩
  have hlen : (W ++ [x]).length = W.length + 1 := by simp
  rw [hlen]
  have := HG2.out.put 0 (.slice A2 (W.length + 1) c2)
  simpa using this
end Go.Proofs.YthnhbcohfoodlaaGreatDoor

namespace Go.Proofs.YthnhbcohfoodlaaGreatDoor
open Go.RowKit Go.Shelf
def putW (W : List (List UInt8)) (x : List UInt8) : List (List UInt8) := if x = [] then W else W ++ [x]
theorem putW_len (W : List (List UInt8)) (x : List UInt8) : (putW W x).length ≤ W.length + 1 := by
 unfold putW
 split
 ·omega
 ·simp
theorem putW_text (W : List (List UInt8)) (x : List UInt8) (m : Nat) (h : ∀ y ∈ W, y.length ≤ m) (hx : x.length ≤ m) : ∀ y ∈ putW W x, y.length ≤ m := by
 unfold putW
 split
 ·exact h
 ·intro y hy
  rcases List.mem_append.1 hy with hy | hy
  ·exact h y hy
  ·simp at hy; subst hy; exact hx
def WrittenAt (w : World) (base g g0 : Nat) (cs : Array Value) (W : List (List UInt8)) (w' : World) : Prop :=
 Blk w' g0 96 cs ∧ (∃ v, Blk w' g 108 #[v] ∧ OwnT w' base v W) ∧ Below base w w'
theorem written_put {w w' : World} {base g g0 : Nat} {cs : Array Value} {W : List (List UInt8)} (x : List UInt8) (h : WrittenAt w base g g0 cs W w') (hbg : base ≤ g) (hz : base ≤ w.heap.size) (hne : g0 ≠ g) (hW : W.length ≤ 1000) :
 Calls Tryz.prog 107 #[.string ⟨x.toArray⟩, .pointer (some ⟨g, 0, none⟩)] w' fun e w2 => e = .returned (.tuple #[]) ∧ WrittenAt w base g g0 cs (putW W x) w2 := by
 obtain ⟨h1, ⟨v, h2, h3⟩, h4⟩ := h
 refine (put_text base g x W v w' h2 h3 hbg (Nat.le_trans hz h4.size) hW).mono ?_
 rintro e w2 ⟨rfl, h5, h6, h7⟩
 exact ⟨rfl, h7 g0 _ cs hne (by decide) h1, h5, h4.trans h6⟩
theorem written_below {w w' w2 : World} {base g g0 : Nat} {cs : Array Value} {W : List (List UInt8)} (h : WrittenAt w base g g0 cs W w') (hb : Below w'.heap.size w' w2) (hz : base ≤ w.heap.size) : WrittenAt w base g g0 cs W w2 := by
 obtain ⟨h1, ⟨v, h2, h3⟩, h4⟩ := h
 exact ⟨Blk.below h1 hb h1.lt, ⟨v, Blk.below h2 hb h2.lt, own_below h3 hb⟩, h4.trans (hb.mono (Nat.le_trans hz h4.size))⟩
end Go.Proofs.YthnhbcohfoodlaaGreatDoor
