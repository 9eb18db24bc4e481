/- The words of a side, by the document's answer: the walk of scriptref5.SideWords: sideW. -/
import Derived.Test.YtdfljicijfceeaaDoorItemsText
import Derived.Deep.DeepCutAuto
import Derived.Deep.RegionHeldLaw
namespace Go.Proofs.YtdfljicijfceeaaDoor
open Go.RowKit

/-- Append onto a row keeps a row that was made later. -/
theorem own_kept_far {w w0 w' : World} {B base sz sz' n m m' k : Nat} {e e' : TypeId} {v v2 v' : Value} {xs ys ys' zs : List Value} (h : w.ownsRow B e sz v n xs) (h2 : w0.ownsRow base e' sz' v2 m ys) (hB : w0.heap.size ≤ B)
    (_h3 : w.ownsRow base e' sz' v2 m' ys') (ha : Appended base e' sz' v2 w k zs v' w') : w'.ownsRow B e sz v n xs := by
  refine World.ownsRow.kept h ha.2.1 ?_
  rcases h.2 with ⟨rfl, _⟩ | ⟨g, cap, cur, rfl, hg, _⟩
  · exact .inl rfl
  · refine .inr ?_
    rcases h2.2 with ⟨rfl, _⟩ | ⟨g2, cap2, cur2, rfl, _, hg2, _⟩
    · simp [Value.ownBlock]
    · simp only [Value.ownBlock, ne_eq, Option.some.injEq]
      have := (Array.getElem?_eq_some_iff.1 hg2).1
      omega
theorem own_drew {w : World} {base sz n : Nat} {e : TypeId} {v : Value} {xs : List Value} (h : w.ownsRow base e sz v n xs) : w.drew.ownsRow base e sz v n xs := h
theorem wordsGo_minus (l : List ItemD) : ∀ i : Nat, (wordsGo (-1) i l).length = l.length := by
  induction l with
  | nil => intro i; unfold wordsGo; rw [if_neg (by omega)]; rfl
  | cons a l ih =>
    intro i
    unfold wordsGo
    rw [if_neg (by omega)]
    simp [ih (i + 1)]
theorem wordsP_len {l : List ItemD} {cursor : Int} (h : itemsP l = 0) : (wordsP l cursor).length ≤ 41 := by
  obtain ⟨h1, h2⟩ := items_ok h
  have := (wordsGo_ok cursor l 0 h2).1
  unfold wordsP
  omega

/-- How far a side's words have come. -/
def SwAt (w : World) (cs : Array Value) (W : List (List UInt8)) (v : Value) (wx : World) : Prop :=
  Blk wx w.heap.size 37 cs ∧ OwnT wx w.heap.size v W ∧ Below w.heap.size w wx
theorem SwAt.one {w wx w2 : World} {cs : Array Value} {W : List (List UInt8)} {v v' : Value} {x : List UInt8} {t : TypeId} (h : SwAt w cs W v wx)
    (ha : Appended w.heap.size 9 1 v (wx.alloc (.cells #[.string ⟨x.toArray⟩] t)) (W.length + 1) (strVals W ++ [.string ⟨x.toArray⟩]) v' w2) : SwAt w cs (W ++ [x]) v' w2 := by
  obtain ⟨h1, h2, h3⟩ := h
  have h4 : OwnT (wx.alloc (.cells #[.string ⟨x.toArray⟩] t)) w.heap.size v W := World.ownsRow.alloc h2 _
  have h5 := h3.alloc h3.size (.cells #[.string ⟨x.toArray⟩] t)
  exact ⟨Blk.appended (Blk.alloc h1 _) h4 (by decide) ha, OwnT.push rfl W ha, h5.trans (ha.below h5.size h4)⟩
theorem SwAt.more {w wx w2 : World} {cs : Array Value} {W X : List (List UInt8)} {v v' : Value} (h : SwAt w cs W v wx)
    (ha : Appended w.heap.size 9 1 v wx (W.length + X.length) (strVals W ++ strVals X) v' w2) : SwAt w cs (W ++ X) v' w2 := by
  obtain ⟨h1, h2, h3⟩ := h
  exact ⟨Blk.appended h1 h2 (by decide) ha, OwnT.of ha (by simp) (strVals_append _ _), h3.trans (ha.below h3.size h2)⟩
theorem SwAt.drew {w wx : World} {cs : Array Value} {W : List (List UInt8)} {v : Value} (h : SwAt w cs W v wx) : SwAt w cs W v wx.drew := ⟨h.1, h.2.1, h.2.2.drew⟩
theorem SwAt.alloc {w wx : World} {cs : Array Value} {W : List (List UInt8)} {v : Value} (h : SwAt w cs W v wx) (o : Obj) : SwAt w cs W v (wx.alloc o) :=
  ⟨Blk.alloc h.1 o, World.ownsRow.alloc h.2.1 o, h.2.2.alloc h.2.2.size o⟩
theorem SwAt.below {w wx w2 : World} {cs : Array Value} {W : List (List UInt8)} {v : Value} (h : SwAt w cs W v wx) (hb : Below wx.heap.size wx w2) : SwAt w cs W v w2 := by
  obtain ⟨h1, h2, h3⟩ := h
  exact ⟨Blk.below h1 hb h1.lt, own_below h2 hb, h3.trans (hb.mono h3.size)⟩

set_option maxRecDepth 100000 in
set_option maxHeartbeats 3200000 in
theorem side_words (start fin : Bool) (A1 A2 A3 : Option Addr) (n1 n2 n3 c1 c2 c3 : Nat) (before source after : List ItemD) (cursor : Int) (w : World)
    (h1 : RdIt w w.heap.size A1 n1 before) (h2 : RdIt w w.heap.size A2 n2 source) (h3 : RdIt w w.heap.size A3 n3 after) (k1 : itemsP before = 0) (k2 : itemsP source = 0) (k3 : itemsP after = 0) :
    Calls Tryd.prog 15 #[.agg #[.bool start, .bool fin, .slice A1 n1 c1, .slice A2 n2 c2, .slice A3 n3 c3, .int .i64 cursor]] w fun e w' => (∃ v, e = .returned v ∧ OwnT w' w.heap.size v (sideW ⟨start, fin, before, source, after, cursor⟩)) ∧ Below w.heap.size w w' := by
  obtain ⟨i0, hi, hz0, hz1, hz2⟩ := info_parts infoStr
  have hx1 := wordsP_len (cursor := -1) k1
  have hx2 := wordsP_len (cursor := cursor) k2
  have hx3 := wordsP_len (cursor := -1) k3
  have hs0 : SwAt w #[.bool start, .bool fin, .slice A1 n1 c1, .slice A2 n2 c2, .slice A3 n3 c3, .int .i64 cursor] [] (.slice none 0 0) (w.alloc (.cells #[.bool start, .bool fin, .slice A1 n1 c1, .slice A2 n2 c2, .slice A3 n3 c3, .int .i64 cursor] 37)) :=
    ⟨Blk.new _ _ _, OwnT.nil _ _, (Below.refl _ _).alloc (Nat.le_refl _) _⟩
  have S0 := Lib.hid hs0
  have HN3 := Lib.hid (RdL.len h3)
  have HN1 := Lib.hid (show (wordsP before (-1)).length = before.length from wordsGo_minus _ _)
  generalize hX1 : wordsP before (-1) = X1 at *
  generalize hX2 : wordsP source cursor = X2 at *
  generalize hX3 : wordsP after (-1) = X3 at *
  have HX1 := Lib.hid hX1
  have HX2 := Lib.hid hX2
  have HX3 := Lib.hid hX3
  have H1 := Lib.hid h1
  have H2 := Lib.hid h2
  have H3 := Lib.hid h3
  have K1 := Lib.hid k1
  have K2 := Lib.hid k2
  have K3 := Lib.hid k3
  clear h1 h2 h3 k1 k2 k3 hX1 hX2 hX3 hs0
  go_enter Tryd.func15, Tryd.ntmps15
  go_upto_region 2 with fail
  go_cut [3, 5] (fun s3 s5 wx => s5 = .bool start ∧ SwAt w #[.bool start, .bool fin, .slice A1 n1 c1, .slice A2 n2 c2, .slice A3 n3 c3, .int .i64 cursor] [] s3 wx)
  case first =>
    go_wp2_with fail
    go_meet
    exact ⟨rfl, S0.out⟩
  case rest =>
  obtain ⟨rfl, hcut⟩ := hcut
  clear S0
  have S0 := Lib.hid hcut
  clear hcut
  obtain ⟨AO0, cO0, rfl, _⟩ := own_form S0.out.2.1
  go_upto_if 5 with fail
  go_cut [3] (fun s3 wx => SwAt w #[.bool start, .bool fin, .slice A1 n1 c1, .slice A2 n2 c2, .slice A3 n3 c3, .int .i64 cursor] (if start = true then [[94]] else []) s3 wx)
  case first =>
    cases start
    · go_wp2_with fail
      go_meet
      exact S0.out
    · have HN := Lib.hid (Rd.new wc 9 1 1 [.string ⟨#[94]⟩] rfl)
      have HO := Lib.hid (World.ownsRow.alloc S0.out.2.1 (.cells #[.string ⟨#[94]⟩] 9))
      have HZ := Lib.hid (S0.out.2.2.alloc S0.out.2.2.size (.cells #[.string ⟨#[94]⟩] 9))
      go_wp2_with (at_builtin; refine wpList_append_rd _ rfl (.tmp 6) (.tmp 7) 47 rfl w.heap.size 9 i0 _ 1 16 Tryd.underlying47 hi hz0 hz1 hz2 rfl (by decide) _ _ _ rfl HO.out _ (some ⟨wc.heap.size, 0, none⟩) 1 1 [.string ⟨#[94]⟩] rfl HN.out (strVals_one [[94]]) (by simp only [maxLen]; simp) (by simp) HZ.out.size ?_)
      intro v1 w1 happ
      go_wp2_with fail
      go_meet
      exact SwAt.one (x := [94]) S0.out happ
  case rest =>
    generalize hW1 : (if start = true then [[94]] else ([] : List (List UInt8))) = W1 at hcut
    have hl1 : W1.length ≤ 1 := by rw [← hW1]; split <;> simp
    have HW1 := Lib.hid hW1
    have S1 := Lib.hid hcut
    clear hW1 hcut
    obtain ⟨AO, cO, rfl, _⟩ := own_form S1.out.2.1
    have d2 : wc.cell? ⟨w.heap.size, 2, none⟩ = some (.slice A1 n1 c1) := S1.out.1.cell 2
    go_upto_if 16 with (first
      | (go_at_call 34
         refine (ref_words A1 n1 c1 before (-1) _ (RdIt.weak (weak_of S1.out.2.2 S1.out.2.2.size) H1.out) K1.out).mono ?_
         rintro e w2 ⟨⟨v2, rfl, ho2⟩, hb2⟩
         rw [HX1.out] at ho2
         obtain ⟨A2', c2', rfl, _⟩ := own_form ho2
         have S2 := Lib.hid (SwAt.below S1.out hb2)
         have R2 := Lib.hid (OwnT.rd ho2 rfl)
         clear ho2 hb2)
      | (at_builtin
         refine wpList_append_rd _ rfl (.tmp 9) (.tmp 12) 47 rfl w.heap.size 9 i0 _ 1 16 Tryd.underlying47 hi hz0 hz1 hz2 rfl (by decide) _ _ _ rfl S2.out.2.1 _ A2' _ c2' (strVals X1) rfl R2.out (strVals_one X1) (by simp only [maxLen]; omega) (by omega) S2.out.2.2.size ?_
         intro v3 w3 happ
         have hs := SwAt.more S2.out happ
         clear happ
         generalize hW2 : W1 ++ X1 = W2 at hs
         have hl2 : W2.length ≤ 42 := by rw [← hW2]; simp; omega
         have HW2 := Lib.hid hW2
         have S3 := Lib.hid hs
         clear hs hW2
         obtain ⟨A3', c3', rfl, _⟩ := own_form S3.out.2.1))
    go_cut [3] (fun s3 wx => SwAt w #[.bool start, .bool fin, .slice A1 n1 c1, .slice A2 n2 c2, .slice A3 n3 c3, .int .i64 cursor] (W2 ++ (if W2 = [] then [] else [[123]])) s3 wx)
    case first =>
      by_cases hw : W2 = []
      · have hz : ¬ 0 < W2.length := by rw [hw]; simp
        have HE := Lib.hid hw
        clear hw
        go_wp2_with fail
        go_meet
        rw [if_pos HE.out, List.append_nil]
        exact S3.out
      · have hz : 0 < W2.length := List.length_pos_iff.2 hw
        have HE := Lib.hid hw
        clear hw
        have HN := Lib.hid (Rd.new w3 9 1 1 [.string ⟨#[123]⟩] rfl)
        have HO := Lib.hid (World.ownsRow.alloc S3.out.2.1 (.cells #[.string ⟨#[123]⟩] 9))
        have HZ := Lib.hid (S3.out.2.2.alloc S3.out.2.2.size (.cells #[.string ⟨#[123]⟩] 9))
        go_wp2_with (at_builtin; refine wpList_append_rd _ rfl (.tmp 17) (.tmp 18) 47 rfl w.heap.size 9 i0 _ 1 16 Tryd.underlying47 hi hz0 hz1 hz2 rfl (by decide) _ _ _ rfl HO.out _ (some ⟨w3.heap.size, 0, none⟩) 1 1 [.string ⟨#[123]⟩] rfl HN.out (strVals_one [[123]]) (by simp only [maxLen]; omega) (by omega) HZ.out.size ?_)
        intro v4 w4 happ
        go_wp2_with fail
        go_meet
        rw [if_neg HE.out]
        exact SwAt.one (x := [123]) S3.out happ
    case rest =>
      generalize hW3 : W2 ++ (if W2 = [] then ([] : List (List UInt8)) else [[123]]) = W3 at hcut
      have hl3 : W3.length ≤ 43 := by rw [← hW3]; split <;> simp <;> omega
      have HW3 := Lib.hid hW3
      have S4 := Lib.hid hcut
      clear hW3 hcut
      obtain ⟨AO4, cO4, rfl, _⟩ := own_form S4.out.2.1
      have f3 : wc.cell? ⟨w.heap.size, 3, none⟩ = some (.slice A2 n2 c2) := S4.out.1.cell 3
      have f5 : wc.cell? ⟨w.heap.size, 5, none⟩ = some (.int .i64 cursor) := S4.out.1.cell 5
      go_upto_region 8 with (first
        | (go_at_call 34
           refine (ref_words A2 n2 c2 source cursor _ (RdIt.weak (weak_of S4.out.2.2 S4.out.2.2.size) H2.out) K2.out).mono ?_
           rintro e w5 ⟨⟨v5, rfl, ho5⟩, hb5⟩
           rw [HX2.out] at ho5
           obtain ⟨A5, c5, rfl, _⟩ := own_form ho5
           have S5 := Lib.hid (SwAt.below S4.out hb5)
           have R5 := Lib.hid (OwnT.rd ho5 rfl)
           clear ho5 hb5)
        | (at_builtin
           refine wpList_append_rd _ rfl (.tmp 20) (.tmp 25) 47 rfl w.heap.size 9 i0 _ 1 16 Tryd.underlying47 hi hz0 hz1 hz2 rfl (by decide) _ _ _ rfl S5.out.2.1 _ A5 _ c5 (strVals X2) rfl R5.out (strVals_one X2) (by simp only [maxLen]; omega) (by omega) S5.out.2.2.size ?_
           intro v6 w6 happ
           have hs := SwAt.more S5.out happ
           clear happ
           generalize hW4 : W3 ++ X2 = W4 at hs
           have hl4 : W4.length ≤ 84 := by rw [← hW4]; simp; omega
           have HW4 := Lib.hid hW4
           have S6 := Lib.hid hs
           clear hs hW4
           obtain ⟨A6, c6, rfl, _⟩ := own_form S6.out.2.1))
      have g1 : w6.cell? ⟨w.heap.size, 1, none⟩ = some (.bool fin) := S6.out.1.cell 1
      have g4 : w6.cell? ⟨w.heap.size, 4, none⟩ = some (.slice A3 n3 c3) := S6.out.1.cell 4
      go_cut [3, 34] (fun s3 s34 wx => s34 = .bool (decide (fin = true ∨ 0 < n3)) ∧ SwAt w #[.bool start, .bool fin, .slice A1 n1 c1, .slice A2 n2 c2, .slice A3 n3 c3, .int .i64 cursor] W4 s3 wx)
      case first =>
        cases fin
        · by_cases hp : 0 < n3
          · go_wp2_with fail
            go_meet
            exact ⟨by simp [hp], S6.out⟩
          · go_wp2_with fail
            go_meet
            exact ⟨by simp [hp], S6.out⟩
        · go_wp2_with fail
          go_meet
          exact ⟨by simp, S6.out⟩
      case rest =>
        obtain ⟨rfl, hcut⟩ := hcut
        clear g1 g4 S6
        have S7 := Lib.hid hcut
        clear hcut
        obtain ⟨A7, c7, rfl, _⟩ := own_form S7.out.2.1
        generalize hbb : decide (fin = true ∨ 0 < n3) = b
        have HBB := Lib.hid hbb
        clear hbb
        go_upto_if 34 with fail
        go_cut [3] (fun s3 wx => SwAt w #[.bool start, .bool fin, .slice A1 n1 c1, .slice A2 n2 c2, .slice A3 n3 c3, .int .i64 cursor] (W4 ++ (if b = true then [125] :: X3 else [])) s3 wx)
        case first =>
          cases b
          · go_wp2_with fail
            go_meet
            simpa using S7.out
          · have HH3 := Lib.hid (fun (wx : World) (hb : Below w.heap.size w wx) => RdIt.weak (weak_of hb hb.size) H3.out)
            have HRX := Lib.hid (fun (wx : World) => Rd.new wx 9 1 1 [.string ⟨#[125]⟩] rfl)
            go_upto_region 9 with fail
            go_region_held_law (fun w' => w'.cell? ⟨w.heap.size, 4, none⟩ = some (.slice A3 n3 c3))
              (first
                | exact S7.out.1.cell 4
                | exact SF.out.1.cell 4
                | exact SA.out.1.cell 4
                | exact SC.out.1.cell 4
                | exact (SwAt.drew S7.out).1.cell 4
                | exact (SwAt.alloc (SwAt.drew S7.out) _).1.cell 4
                | exact (SwAt.alloc SC.out _).1.cell 4)
              (first
                | (go_simp
                   go_at_call 34
                   refine (ref_words A3 n3 c3 after (-1) _ ?_ K3.out).mono ?_
                   first
                     | exact HH3.out _ SA.out.2.2
                     | exact HH3.out _ (SwAt.alloc (SwAt.drew S7.out) _).2.2
                     | exact HH3.out _ (SwAt.drew S7.out).2.2
                   rintro e w8 ⟨⟨v8, rfl, ho8⟩, hb8⟩
                   rw [HX3.out] at ho8
                   obtain ⟨A8, c8, rfl, _⟩ := own_form ho8
                   have HR := Lib.hid ho8
                   first
                     | have SA := Lib.hid (SwAt.below SA.out hb8)
                     | (have RX := Lib.hid (Rd.below (HRX.out wc.drew) hb8)
                        have SC := Lib.hid (SwAt.below (SwAt.alloc (SwAt.drew S7.out) (.cells #[.string ⟨#[125]⟩] 9)) hb8))
                     | have SC := Lib.hid (SwAt.below (SwAt.drew S7.out) hb8)
                   clear ho8 hb8)
                | (refine step_append_rd _ rfl (.tmp 35) (.tmp 36) 47 rfl w.heap.size 9 i0 _ 1 16 Tryd.underlying47 hi hz0 hz1 hz2 rfl (by decide) _ _ _ rfl (SwAt.alloc (SwAt.drew S7.out) (.cells #[.string ⟨#[125]⟩] 9)).2.1 _ _ 1 1 [.string ⟨#[125]⟩] rfl (HRX.out wc.drew) (strVals_one [[125]]) (by simp only [maxLen]; omega) (by omega) (SwAt.alloc (SwAt.drew S7.out) (.cells #[.string ⟨#[125]⟩] 9)).2.2.size ?_
                   intro v9 w9 happ
                   have SA := Lib.hid (SwAt.more (X := [[125]]) (SwAt.alloc (SwAt.drew S7.out) (.cells #[.string ⟨#[125]⟩] 9)) happ)
                   clear happ)
                | (refine step_append_rd _ rfl (.tmp 35) (.tmp 36) 47 rfl w.heap.size 9 i0 _ 1 16 Tryd.underlying47 hi hz0 hz1 hz2 rfl (by decide) _ _ _ rfl SC.out.2.1 _ _ 1 1 [.string ⟨#[125]⟩] rfl RX.out (strVals_one [[125]]) (by simp only [maxLen]; omega) (by omega) SC.out.2.2.size ?_
                   intro v9 w9 happ
                   have SA := Lib.hid (SwAt.more (X := [[125]]) SC.out happ)
                   have HR := Lib.hid (own_kept_far HR.out S7.out.2.1 (by simp) SC.out.2.1 happ)
                   clear happ)
                | (refine step_append_rd _ rfl (.tmp 35) (.tmp 36) 47 rfl w.heap.size 9 i0 _ 1 16 Tryd.underlying47 hi hz0 hz1 hz2 rfl (by decide) _ _ _ rfl (SwAt.alloc SC.out (.cells #[.string ⟨#[125]⟩] 9)).2.1 _ _ 1 1 [.string ⟨#[125]⟩] rfl (HRX.out _) (strVals_one [[125]]) (by simp only [maxLen]; omega) (by omega) (SwAt.alloc SC.out (.cells #[.string ⟨#[125]⟩] 9)).2.2.size ?_
                   intro v9 w9 happ
                   have SA := Lib.hid (SwAt.more (X := [[125]]) (SwAt.alloc SC.out (.cells #[.string ⟨#[125]⟩] 9)) happ)
                   have HR := Lib.hid (own_kept_far (World.ownsRow.alloc HR.out (.cells #[.string ⟨#[125]⟩] 9)) S7.out.2.1 (by simp) (SwAt.alloc SC.out (.cells #[.string ⟨#[125]⟩] 9)).2.1 happ)
                   clear happ)
                | (refine step_append_rd _ rfl (.tmp 37) (.tmp 40) 47 rfl w.heap.size 9 i0 _ 1 16 Tryd.underlying47 hi hz0 hz1 hz2 rfl (by decide) _ _ _ rfl SA.out.2.1 _ _ _ _ (strVals X3) rfl (OwnT.rd HR.out rfl) (strVals_one X3) (by simp only [maxLen, List.length_append, List.length_cons, List.length_nil]; omega) (by simp only [List.length_append, List.length_cons, List.length_nil]; omega) SA.out.2.2.size ?_
                   intro v9 w9 happ
                   have SF := Lib.hid (SwAt.more SA.out happ)
                   clear happ))
            all_goals
              go_simp
              go_wp2_with fail
              go_meet
              simpa using SF.out
        case rest =>
          generalize hW5 : W4 ++ (if b = true then [125] :: X3 else ([] : List (List UInt8))) = W5 at hcut
          have hl5 : W5.length ≤ 126 := by rw [← hW5]; split <;> simp <;> omega
          have HW5 := Lib.hid hW5
          have S8 := Lib.hid hcut
          clear hW5 hcut S7
          obtain ⟨A8, c8, rfl, _⟩ := own_form S8.out.2.1
          have k1 : wc.cell? ⟨w.heap.size, 1, none⟩ = some (.bool fin) := S8.out.1.cell 1
          have hfinal : W5 ++ (if fin = true then [[36]] else []) = sideW ⟨start, fin, before, source, after, cursor⟩ := by
            unfold sideW
            dsimp only
            rw [HX1.out, HX2.out, HX3.out, HN3.out, ← HW5.out, ← HW4.out, ← HW3.out, ← HW2.out, ← HW1.out, ← HBB.out]
            simp
          have HF := Lib.hid hfinal
          clear hfinal
          cases fin
          · go_wp2_with fail
            go_ret
            refine ⟨⟨_, rfl, ?_⟩, S8.out.2.2⟩
            rw [← HF.out]
            simpa using S8.out.2.1
          · have HN := Lib.hid (Rd.new wc 9 1 1 [.string ⟨#[36]⟩] rfl)
            have HO := Lib.hid (World.ownsRow.alloc S8.out.2.1 (.cells #[.string ⟨#[36]⟩] 9))
            have HZ := Lib.hid (S8.out.2.2.alloc S8.out.2.2.size (.cells #[.string ⟨#[36]⟩] 9))
            go_wp2_with (at_builtin; refine wpList_append_rd _ rfl (.tmp 44) (.tmp 45) 47 rfl w.heap.size 9 i0 _ 1 16 Tryd.underlying47 hi hz0 hz1 hz2 rfl (by decide) _ _ _ rfl HO.out _ (some ⟨wc.heap.size, 0, none⟩) 1 1 [.string ⟨#[36]⟩] rfl HN.out (strVals_one [[36]]) (by simp only [maxLen]; omega) (by omega) HZ.out.size ?_)
            intro v9 w9 happ
            have HS9 := Lib.hid (SwAt.one (x := [36]) S8.out happ)
            clear happ
            go_wp2_with fail
            go_ret
            refine ⟨⟨_, rfl, ?_⟩, HS9.out.2.2⟩
            rw [← HF.out]
            exact HS9.out.2.1

end Go.Proofs.YtdfljicijfceeaaDoor
