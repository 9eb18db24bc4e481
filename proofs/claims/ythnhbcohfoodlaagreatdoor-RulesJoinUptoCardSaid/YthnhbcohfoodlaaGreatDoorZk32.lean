/- SetFour -/
import Derived.Test.YthnhbcohfoodlaaGreatDoorZk31
import Derived.Test.YthnhbcohfoodlaaGreatDoorZk27
import Derived.Test.YthnhbcohfoodlaaGreatDoorZk26
namespace Go.Proofs.YthnhbcohfoodlaaGreatDoor
open Go.RowKit
def SetTuple (w : World) (r : Spans × Int) (e : Ending) (w' : World) : Prop := ∃ A' n' c', e = .returned (.tuple #[.slice A' n' c', .int .i64 r.2]) ∧ RdX w' (fun b => w.heap.size ≤ b) 2 A' n' (spanCells r.1) ∧ n' ≤ 200 ∧ n' ≤ c' ∧ Below w.heap.size w w'
theorem SetTuple.of_fit {w w1 : World} {A : Option Addr} {n c : Nat} {s : Spans} {e : Ending} {w' : World} (h1 : RdX w1 (fun b => w.heap.size ≤ b) 2 A n (spanCells s)) (hc : n ≤ c) (hb : Below w.heap.size w w1)
    (he : e = .returned (if 200 < n then .tuple #[.slice none 0 0, .int .i64 5] else .tuple #[.slice A n c, .int .i64 0]) ∧ w' = w1) : SetTuple w (fitP s) e w' := by
  obtain ⟨rfl, rfl⟩ := he
  have hl : s.length = n := by have := h1.1; rw [spanCells_length] at this; omega
  unfold fitP
  rw [hl]
  by_cases h : 200 < n
  · rw [if_pos h, if_pos h]
    exact ⟨none, 0, 0, rfl, ⟨rfl, fun h => absurd h (by omega)⟩, by omega, by omega, hb⟩
  · rw [if_neg h, if_neg h]
    exact ⟨A, n, c, rfl, h1, by omega, hc, hb⟩
theorem RdX.lift {w : World} {X X' : Nat → Prop} {sz n : Nat} {A : Option Addr} {xs : List Value} (h : RdX w X sz A n xs) (hX : ∀ b, X b → X' b) : RdX w X' sz A n xs := h.keep (Keeps.refl hX)
def OfRel (w : World) (n : Nat) (i : Value) (wr : World) : Prop := ∃ j : Nat, j ≤ n ∧ i = .int .i64 j ∧ Below w.heap.size w wr
def OfPost (w : World) (l : Spans) (e : Ending) (w' : World) : Prop := ∃ l', l.Perm l' ∧ l'.Pairwise (fun a b => a.1 ≤ b.1) ∧ SetTuple w (fitP (mergedP l')) e w'
set_option maxHeartbeats 3200000 in
set_option maxRecDepth 100000 in
theorem sets_of (A : Option Addr) (n c : Nat) (l : Spans) (w : World) (hn : n ≤ 1000) (hr : InRange l) (hl : RdS w w.heap.size A n l) :
    Calls Tryz.prog 50 #[.slice A n c] w (OfPost w l) := by
  have HLEN := Lib.hid hl.len
  have HL := Lib.hid hl
  have HR := Lib.hid hr
  clear hl hr
  go_enter Tryz.func50, Tryz.ntmps50
  go_wp2_with fail
  go_loopw [9] (OfRel w n) (fun i _ => n - (intOf i).toNat)
  case atStart => exact ⟨0, Nat.zero_le _, rfl, Below.refl _ _⟩
  case round =>
    obtain ⟨j, hj, rfl, hb⟩ := hrel
    have hz := hb.size
    by_cases hlt : j < n
    · obtain ⟨⟨x, y⟩, hx⟩ : ∃ z, l[j]? = some z := ⟨_, List.getElem?_eq_getElem (by rw [HLEN.out]; exact hlt)⟩
      obtain ⟨b, off, rfl, hbb, c0, c1⟩ := HL.out.at hx
      have d0 := (hb.cell (p := ⟨b, off + j * 2, none⟩) hbb).trans c0
      have d1 := (hb.cell (p := ⟨b, off + j * 2 + 1, none⟩) hbb).trans c1
      have hxy := HR.out (x, y) (List.mem_of_getElem? hx)
      simp only at hxy
      have HB1 := Lib.hid (hb.alloc hz (.cells #[.int .i32 x, .int .i32 y] 74))
      have g1 : decide (x < 0) = false := decide_eq_false (by omega)
      have g2 : decide (1114111 < y) = false := decide_eq_false (by omega)
      have g3 : decide (y < x) = false := decide_eq_false (by omega)
      clear hx c0 c1 hb
      go_wp2_with fail
      exact ⟨⟨j + 1, by omega, by go_num, HB1.out⟩, by simp [intOf]; omega⟩
    · obtain rfl : j = n := by omega
      have HCL := Lib.hid (clone_spans A j c l wr (by omega) ((Rd.below HL.out hb).more hz))
      have HB := Lib.hid hb
      clear hb
      go_wp2_with fail
      refine HCL.out.mono ?_
      rintro e w1 ⟨⟨v, rfl, ho⟩, hb1⟩
      have HB1 := Lib.hid (HB.out.trans (hb1.mono hz))
      have HO1 := Lib.hid (own_mono ho hz)
      clear hb1 HCL
      have HWL := Lib.hid (own_form ho)
      rcases ho.2 with ⟨rfl, hn0⟩ | ⟨g, cap, cur, rfl, hg, hh, hrest⟩
      · obtain rfl : j = 0 := hn0
        have hl0 : l = [] := List.eq_nil_of_length_eq_zero HLEN.out
        subst hl0
        clear ho HWL
        go_wp2_with fail
        refine (sort_nil _).mono ?_
        rintro e w2 ⟨rfl, rfl⟩
        have HM := Lib.hid (sets_merged none 0 0 [] w2 (by omega) (by intro x hx; simp at hx) Rd.nil)
        go_wp2_with fail
        refine HM.out.mono ?_
        rintro e w3 ⟨A3, n3, c3, rfl, hr3, hn3, hc3, hb3⟩
        have HB3 := Lib.hid (HB1.out.trans (hb3.mono HB1.out.size))
        have HP := Lib.hid (fun (e : Ending) (w' : World) h => show SetTuple w (fitP (mergedP [])) e w' from SetTuple.of_fit (hr3.lift (X' := fun b => w.heap.size ≤ b) (fun _ h => Nat.le_trans HB1.out.size h)) hc3 HB3.out h)
        clear hr3 hb3
        go_wp2_with fail
        refine (sets_fit A3 n3 c3 w3).mono ?_
        rintro e w4 he
        obtain ⟨A5, n5, c5, rfl, h5⟩ := HP.out e w4 he
        have H5 := Lib.hid h5
        clear h5 he HP
        go_wp2_with fail
        go_ret2
        exact ⟨[], List.Perm.nil, List.Pairwise.nil, A5, n5, c5, rfl, H5.out⟩
      · have HS := Lib.hid (sort_spans g j cap w.heap.size l w1 (by omega) HLEN.out HO1.out)
        have HGW := Lib.hid (Nat.le_trans hz hg)
        clear ho HWL hrest hh hg
        go_wp2_with fail
        refine HS.out.mono ?_
        rintro e w2 ⟨rfl, hbut, l', hp, hpw, hrd⟩
        have HB2 := Lib.hid (HB1.out.trans (hbut.to HB1.out.size HGW.out))
        have HR2 := Lib.hid (show InRange l' from fun x hx => HR.out x (hp.mem_iff.2 hx))
        have HP := Lib.hid hp
        have HPW := Lib.hid hpw
        have HM := Lib.hid (sets_merged (some ⟨g, 0, none⟩) j cap l' w2 (by omega) HR2.out hrd)
        clear hbut hp hpw hrd HS
        go_wp2_with fail
        refine HM.out.mono ?_
        rintro e w3 ⟨A3, n3, c3, rfl, hr3, hn3, hc3, hb3⟩
        have HB3 := Lib.hid (HB2.out.trans (hb3.mono HB2.out.size))
        have HT := Lib.hid (fun (e : Ending) (w' : World) h => show SetTuple w (fitP (mergedP l')) e w' from SetTuple.of_fit (hr3.lift (X' := fun b => w.heap.size ≤ b) (fun _ h => Nat.le_trans HB2.out.size h)) hc3 HB3.out h)
        clear hr3 hb3
        go_wp2_with fail
        refine (sets_fit A3 n3 c3 w3).mono ?_
        rintro e w4 he
        obtain ⟨A5, n5, c5, rfl, h5⟩ := HT.out e w4 he
        have H5 := Lib.hid h5
        clear h5 he HT
        go_wp2_with fail
        go_ret2
        exact ⟨l', HP.out, HPW.out, A5, n5, c5, rfl, H5.out⟩
structure SetArg (w : World) (A : Option Addr) (n c : Nat) (s : Spans) : Prop where
  right : RightSet s
  rd : RdS w w.heap.size A n s
  cap : n ≤ c
theorem SetArg.below {w w' : World} {A : Option Addr} {n c : Nat} {s : Spans} (h : SetArg w A n c s) (hb : Below w.heap.size w w') : SetArg w' A n c s := ⟨h.right, (Rd.below h.rd hb).more hb.size, h.cap⟩
theorem SetArg.le {w : World} {A : Option Addr} {n c : Nat} {s : Spans} (h : SetArg w A n c s) : n ≤ 200 := by have := h.rd.len; have := h.right.size; omega
theorem SetArg.setC {w : World} {A : Option Addr} {n c : Nat} {s : Spans} (h : SetArg w A n c s) : SetC w Any0 s [.slice A n c] :=
  ⟨_, rfl, A, n, c, rfl, RdX.of_rd h.rd (Nat.le_refl _) (fun _ _ => trivial), by have := h.le; simp only [maxLen]; omega⟩
theorem sets_one {w : World} {A : Option Addr} {n c : Nat} {s : Spans} (h : SetArg w A n c s) :
    ListX (SetC (w.alloc (.cells #[.slice A n c] 22)) Any0) (w.alloc (.cells #[.slice A n c] 22)) Any0 1 (some ⟨w.heap.size, 0, none⟩) 1 [s] := by
  have hb := (Below.refl w.heap.size w).alloc (Nat.le_refl _) (.cells #[.slice A n c] 22)
  refine ⟨[[.slice A n c]], rfl, rfl, ?_, by simp, RdX.new 22 [.slice A n c] rfl trivial⟩
  intro i a cs ha hc
  rcases i with _ | i
  · simp at ha hc; subst ha hc; exact (h.below hb).setC
  · simp at ha
theorem sets_two {w : World} {A B : Option Addr} {n c m d : Nat} {a b : Spans} (ha : SetArg w A n c a) (hb : SetArg w B m d b) :
    ListX (SetC (w.alloc (.cells #[.slice A n c, .slice B m d] 22)) Any0) (w.alloc (.cells #[.slice A n c, .slice B m d] 22)) Any0 1 (some ⟨w.heap.size, 0, none⟩) 2 [a, b] := by
  have hbl := (Below.refl w.heap.size w).alloc (Nat.le_refl _) (.cells #[.slice A n c, .slice B m d] 22)
  refine ⟨[[.slice A n c], [.slice B m d]], rfl, rfl, ?_, by simp, RdX.new 22 [.slice A n c, .slice B m d] rfl trivial⟩
  intro i x cs hx hc
  match i with
  | 0 => simp at hx hc; subst hx hc; exact (ha.below hbl).setC
  | 1 => simp at hx hc; subst hx hc; exact (hb.below hbl).setC
  | i + 2 => simp at hx
theorem right_one_call {w : World} {A : Option Addr} {n c : Nat} {s : Spans} (h : SetArg w A n c s) :
    Calls Tryz.prog 49 #[.slice (some ⟨w.heap.size, 0, none⟩) 1 1] (w.alloc (.cells #[.slice A n c] 22)) fun e w' => e = .returned (.int .i64 0) ∧ Below w.heap.size w w' :=
  (sets_right Any0 [s] _ 1 1 _ (by decide) (by simpa using h.right) (sets_one h)).mono fun _ _ ⟨he, hb⟩ => ⟨he, ((Below.refl _ _).alloc (Nat.le_refl _) _).trans (hb.mono (by simp))⟩
theorem right_two_call {w : World} {A B : Option Addr} {n c m d : Nat} {a b : Spans} (ha : SetArg w A n c a) (hb : SetArg w B m d b) :
    Calls Tryz.prog 49 #[.slice (some ⟨w.heap.size, 0, none⟩) 2 2] (w.alloc (.cells #[.slice A n c, .slice B m d] 22)) fun e w' => e = .returned (.int .i64 0) ∧ Below w.heap.size w w' :=
  (sets_right Any0 [a, b] _ 2 2 _ (by decide) (by simpa using ⟨ha.right, hb.right⟩) (sets_two ha hb)).mono fun _ _ ⟨he, hb⟩ => ⟨he, ((Below.refl _ _).alloc (Nat.le_refl _) _).trans (hb.mono (by simp))⟩
theorem concat_two_call {w : World} {A B : Option Addr} {n c m d : Nat} {a b : Spans} (ha : SetArg w A n c a) (hb : SetArg w B m d b) :
    Calls Tryz.prog 51 #[.slice (some ⟨w.heap.size, 0, none⟩) 2 2] (w.alloc (.cells #[.slice A n c, .slice B m d] 22)) fun e w' =>
      ∃ A' c' k, e = .returned (.slice A' k c') ∧ k ≤ 1000 ∧ RdS w' w'.heap.size A' k (a ++ b) ∧ Below w.heap.size w w' := by
  have hbl := (Below.refl w.heap.size w).alloc (Nat.le_refl _) (.cells #[.slice A n c, .slice B m d] 22)
  have hf : [a, b].flatten = a ++ b := by simp
  have h := concat_spans [a, b] [.slice A n c, .slice B m d] (some ⟨w.heap.size, 0, none⟩) 2 2 (w.alloc (.cells #[.slice A n c, .slice B m d] 22)) rfl
    (by have := Rd.new w 22 1 2 [.slice A n c, .slice B m d] rfl; simpa using this)
    (by
      intro i l u hl hu
      match i with
      | 0 => simp at hl hu; subst hl hu; exact ⟨A, n, c, rfl, (ha.below hbl).rd⟩
      | 1 => simp at hl hu; subst hl hu; exact ⟨B, m, d, rfl, (hb.below hbl).rd⟩
      | i + 2 => simp at hl)
    (by rw [hf, List.length_append]; have := ha.right.size; have := hb.right.size; omega) (by decide)
  rw [hf] at h
  refine h.mono ?_
  rintro e w' ⟨⟨v, rfl, ho⟩, hb1⟩
  obtain ⟨A', c', rfl, _⟩ := own_form ho
  exact ⟨A', c', _, rfl, by rw [List.length_append]; have := ha.right.size; have := hb.right.size; omega, Rd.of_own ho, hbl.trans (hb1.mono (by simp))⟩
set_option maxHeartbeats 1600000 in
theorem sets_union (A B : Option Addr) (n c m d : Nat) (a b : Spans) (w : World) (ha : SetArg w A n c a) (hb : SetArg w B m d b) :
    Calls Tryz.prog 17 #[.slice A n c, .slice B m d] w (SetTuple w (opP 124 a b)) := by
  have HA := Lib.hid ha
  have HB := Lib.hid hb
  clear ha hb
  go_enter Tryz.func17, Tryz.ntmps17
  go_wp2_with fail
  refine (right_two_call HA.out HB.out).mono ?_
  rintro e w1 ⟨rfl, hb1⟩
  have HA1 := Lib.hid (HA.out.below hb1)
  have HB1 := Lib.hid (HB.out.below hb1)
  have HBL := Lib.hid hb1
  clear hb1
  go_wp2_with fail
  refine (concat_two_call HA1.out HB1.out).mono ?_
  rintro e w2 ⟨A2, c2, k, rfl, hlen, hrd, hb2⟩
  have HBL2 := Lib.hid (HBL.out.trans (hb2.mono HBL.out.size))
  have HO := Lib.hid (sets_of A2 k c2 (a ++ b) w2 hlen (fun x hx => by
    rcases List.mem_append.1 hx with h | h
    · exact HA.out.right.each x h
    · exact HB.out.right.each x h) hrd)
  clear hrd hb2
  go_wp2_with fail
  refine HO.out.mono ?_
  rintro e w3 ⟨l', hp, hpw, A3, n3, c3, rfl, h1, h2, h3, h4⟩
  rw [← union_is HA.out.right HB.out.right hp hpw] at h1 ⊢
  have H1 := Lib.hid (h1.lift (X' := fun b => w.heap.size ≤ b) (fun _ h => Nat.le_trans HBL2.out.size h))
  have H4 := Lib.hid (HBL2.out.trans (h4.mono HBL2.out.size))
  clear h1 h4 hp hpw HO
  go_wp2_with fail
  go_ret2
  exact ⟨A3, n3, c3, rfl, H1.out, h2, h3, H4.out⟩
set_option maxHeartbeats 1600000 in
theorem sets_meet_top (A B : Option Addr) (n c m d : Nat) (a b : Spans) (w : World) (ha : SetArg w A n c a) (hb : SetArg w B m d b) :
    Calls Tryz.prog 18 #[.slice A n c, .slice B m d] w (SetTuple w (opP 38 a b)) := by
  have HA := Lib.hid ha
  have HB := Lib.hid hb
  clear ha hb
  rw [meet_is HA.out.right HB.out.right]
  go_enter Tryz.func18, Tryz.ntmps18
  go_wp2_with fail
  refine (right_two_call HA.out HB.out).mono ?_
  rintro e w1 ⟨rfl, hb1⟩
  have HM := Lib.hid (sets_meet A B n m c d a b w1 (by have := HA.out.le; have := HB.out.le; omega) HA.out.cap HB.out.cap HA.out.right.canon HB.out.right.canon (HA.out.below hb1).rd (HB.out.below hb1).rd)
  have HBL := Lib.hid hb1
  clear hb1
  go_wp2_with fail
  refine HM.out.mono ?_
  rintro e w3 ⟨A3, n3, c3, rfl, hr3, hn3, hc3, hb3⟩
  have HB3 := Lib.hid (HBL.out.trans (hb3.mono HBL.out.size))
  have HT := Lib.hid (fun (e : Ending) (w' : World) h => show SetTuple w (fitP (meetP a b)) e w' from SetTuple.of_fit (hr3.lift (X' := fun b => w.heap.size ≤ b) (fun _ h => Nat.le_trans HBL.out.size h)) hc3 HB3.out h)
  clear hr3 hb3
  go_wp2_with fail
  refine (sets_fit A3 n3 c3 w3).mono ?_
  rintro e w4 he
  obtain ⟨A5, n5, c5, rfl, h5⟩ := HT.out e w4 he
  have H5 := Lib.hid h5
  clear h5 he HT
  go_wp2_with fail
  go_ret2
  exact ⟨A5, n5, c5, rfl, H5.out⟩
set_option maxHeartbeats 1600000 in
theorem sets_minus (A B : Option Addr) (n c m d : Nat) (a b : Spans) (w : World) (ha : SetArg w A n c a) (hb : SetArg w B m d b) :
    Calls Tryz.prog 19 #[.slice A n c, .slice B m d] w (SetTuple w (opP 45 a b)) := by
  have HA := Lib.hid ha
  have HB := Lib.hid hb
  clear ha hb
  rw [minus_is HA.out.right HB.out.right]
  go_enter Tryz.func19, Tryz.ntmps19
  go_wp2_with fail
  refine (right_two_call HA.out HB.out).mono ?_
  rintro e w1 ⟨rfl, hb1⟩
  have HA1 := Lib.hid (HA.out.below hb1)
  have HN := Lib.hid (sets_not B m d b w1 HB.out.le HB.out.right (HB.out.below hb1).rd)
  have HBL := Lib.hid hb1
  clear hb1
  go_wp2_with fail
  refine HN.out.mono ?_
  rintro e w2 ⟨A2, n2, c2, rfl, hr2, hn2, hc2, hb2⟩
  have HB2 := Lib.hid (HBL.out.trans (hb2.mono HBL.out.size))
  have HM := Lib.hid (sets_meet A A2 n n2 c c2 a (notP b) w2 (by have := HA.out.le; omega) HA.out.cap hc2 HA.out.right.canon (notP_is HB.out.right.canon).1 (HA1.out.below hb2).rd hr2.of)
  clear hr2 hb2
  go_wp2_with fail
  refine HM.out.mono ?_
  rintro e w3 ⟨A3, n3, c3, rfl, hr3, hn3, hc3, hb3⟩
  have HB3 := Lib.hid (HB2.out.trans (hb3.mono HB2.out.size))
  have HT := Lib.hid (fun (e : Ending) (w' : World) h => show SetTuple w (fitP (meetP a (notP b))) e w' from SetTuple.of_fit (hr3.lift (X' := fun b => w.heap.size ≤ b) (fun _ h => Nat.le_trans HB2.out.size h)) hc3 HB3.out h)
  clear hr3 hb3
  go_wp2_with fail
  refine (sets_fit A3 n3 c3 w3).mono ?_
  rintro e w4 he
  obtain ⟨A5, n5, c5, rfl, h5⟩ := HT.out e w4 he
  have H5 := Lib.hid h5
  clear h5 he HT
  go_wp2_with fail
  go_ret2
  exact ⟨A5, n5, c5, rfl, H5.out⟩
set_option maxHeartbeats 1600000 in
theorem sets_not_top (A : Option Addr) (n c : Nat) (a b : Spans) (w : World) (ha : SetArg w A n c a) :
    Calls Tryz.prog 20 #[.slice A n c] w (SetTuple w (opP 94 a b)) := by
  have HA := Lib.hid ha
  clear ha
  rw [compl_is HA.out.right b]
  go_enter Tryz.func20, Tryz.ntmps20
  go_wp2_with fail
  refine (right_one_call HA.out).mono ?_
  rintro e w1 ⟨rfl, hb1⟩
  have HN := Lib.hid (sets_not A n c a w1 HA.out.le HA.out.right (HA.out.below hb1).rd)
  have HBL := Lib.hid hb1
  clear hb1
  go_wp2_with fail
  refine HN.out.mono ?_
  rintro e w3 ⟨A3, n3, c3, rfl, hr3, hn3, hc3, hb3⟩
  have HB3 := Lib.hid (HBL.out.trans (hb3.mono HBL.out.size))
  have HT := Lib.hid (fun (e : Ending) (w' : World) h => show SetTuple w (fitP (notP a)) e w' from SetTuple.of_fit (hr3.lift (X' := fun b => w.heap.size ≤ b) (fun _ h => Nat.le_trans HBL.out.size h)) hc3 HB3.out h)
  clear hr3 hb3
  go_wp2_with fail
  refine (sets_fit A3 n3 c3 w3).mono ?_
  rintro e w4 he
  obtain ⟨A5, n5, c5, rfl, h5⟩ := HT.out e w4 he
  have H5 := Lib.hid h5
  clear h5 he HT
  go_wp2_with fail
  go_ret2
  exact ⟨A5, n5, c5, rfl, H5.out⟩
end Go.Proofs.YthnhbcohfoodlaaGreatDoor
