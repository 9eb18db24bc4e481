/- scriptref3.Class: the set of a name. -/
import Derived.Test.YthnhbcohfoodlaaGreatDoorClassMap
import Derived.Test.YthnhbcohfoodlaaGreatDoorSetMerge
import Derived.Test.YthnhbcohfoodlaaGreatDoorUtf
import Derived.WalkMore
import Derived.Test.YthnhbcohfoodlaaGreatDoorHeldTill
namespace Go.Proofs.YthnhbcohfoodlaaGreatDoor
open Go.RowKit

def pairsL (s : Spans) : List Int := s.flatMap fun k => [k.1, k.2]
theorem pairsL_length (s : Spans) : (pairsL s).length = 2 * s.length := by
  induction s with
  | nil => rfl
  | cons x s ih => show ([x.1, x.2] ++ pairsL s).length = _; rw [List.length_append, ih]; simp; omega
theorem pairsL_at : ∀ (s : Spans) (k : Nat) (x y : Int), s[k]? = some (x, y) → (pairsL s)[2 * k]? = some x ∧ (pairsL s)[2 * k + 1]? = some y := by
  intro s
  induction s with
  | nil => intro k x y h; simp at h
  | cons z s ih =>
    intro k x y h
    show ([z.1, z.2] ++ pairsL s)[2 * k]? = _ ∧ ([z.1, z.2] ++ pairsL s)[2 * k + 1]? = _
    cases k with
    | zero =>
      rw [List.getElem?_cons_zero] at h
      obtain rfl := Option.some.inj h
      exact ⟨rfl, rfl⟩
    | succ k =>
      obtain ⟨h1, h2⟩ := ih k x y (by simpa only [List.getElem?_cons_succ] using h)
      refine ⟨?_, ?_⟩
      · rw [List.getElem?_append_right (by simp; omega), show 2 * (k + 1) - [z.1, z.2].length = 2 * k by simp; omega]
        exact h1
      · rw [List.getElem?_append_right (by simp; omega), show 2 * (k + 1) + 1 - [z.1, z.2].length = 2 * k + 1 by simp; omega]
        exact h2
theorem no_text {s k : ByteArray} (h : s ≠ k) : (s.toList == k.data.toList) = false := by
  rw [beq_eq_false_iff_ne, ByteArray.toList_eq]
  exact fun e => h (ByteArray.ext (Array.ext' e))
theorem iter_stays {w : World} {base k p : Nat} {e : TypeId} {sz n : Nat} {v v' : Value} {w' : World} {xs : List Value} {s : ByteArray} (hit : w.heap[k]? = some (.stringIter s p)) (hk : k < base)
    (ho : ∃ m ys, w.ownsRow base e sz v m ys) (h : Appended base e sz v w n xs v' w') : w'.heap[k]? = some (.stringIter s p) := by
  obtain ⟨m, ys, ho⟩ := ho
  rw [h.2.1.block k (Array.getElem?_eq_some_iff.1 hit).1 (fun e => by have := (World.ownsRow.lt ho k e.symm).1; omega)]
  exact hit
/-- Behind the names: the ends of the set's spans. -/
def RcCut (w : World) (s : ByteArray) (v : Value) (wx : World) : Prop :=
  ∃ A n c S, v = .slice A n c ∧ ((classT s = some S ∧ S ≠ []) ∨ (classT s = none ∧ S = [])) ∧ S.length ≤ 10 ∧ Rd wx wx.heap.size 1 A n (runeCells (pairsL S)) ∧ Below w.heap.size w wx
theorem RcCut.new (w : World) (s : ByteArray) (S : Spans) (n : Nat) (hS : classT s = some S) (h0 : S ≠ []) (h10 : S.length ≤ 10) (cs : Array Value) (hcs : cs.toList = runeCells (pairsL S)) (hn : n = 2 * S.length) :
    RcCut w s (.slice (some ⟨w.heap.size, 0, none⟩) n n) (w.alloc (.cells cs 21)) := by
  refine ⟨_, _, _, S, rfl, .inl ⟨hS, h0⟩, h10, ?_, (Below.refl _ _).alloc (Nat.le_refl _) _⟩
  obtain rfl : cs = (runeCells (pairsL S)).toArray := by rw [← hcs]
  exact Rd.more (Rd.new w 21 1 n (runeCells (pairsL S)) (by rw [runeCells_length, pairsL_length]; omega)) (show w.heap.size + 1 ≤ (w.alloc (.cells (runeCells (pairsL S)).toArray 21)).heap.size by simp)
theorem RcCut.none (w : World) (s : ByteArray) (hS : classT s = none) : RcCut w s (.slice none 0 0) w :=
  ⟨_, _, _, [], rfl, .inr ⟨hS, rfl⟩, by simp, Rd.nil, Below.refl _ _⟩
def vowT : ByteArray := ⟨#[65, 69, 73, 79, 85, 97, 101, 105, 111, 117]⟩
def vowL : List Int := [65, 69, 73, 79, 85, 97, 101, 105, 111, 117]
theorem vow_decode : ∀ p : Nat, p < 10 → ((Utf8.decode vowT p).1 : Int) = vowL.getD p 0 ∧ (Utf8.decode vowT p).2 = 1 := by decide +kernel
def VwRel (w : World) (v : Value) (wr : World) : Prop :=
  ∃ p : Nat, p ≤ 10 ∧ wr.heap[w.heap.size]? = some (.stringIter vowT p) ∧ wr.ownsRow (w.heap.size + 1) 21 1 v (2 * p) (runeCells (pairsL (cs4.take p))) ∧ Below w.heap.size w wr
theorem vow_step : ∀ p : Nat, p < 10 → runeCells (pairsL (cs4.take (p + 1))) = runeCells (pairsL (cs4.take p)) ++ [.int .i32 (vowL.getD p 0), .int .i32 (vowL.getD p 0)] := by
  intro p hp
  have h : pairsL (cs4.take (p + 1)) = pairsL (cs4.take p) ++ [vowL.getD p 0, vowL.getD p 0] := by
    revert p
    decide +kernel
  rw [h]
  simp [runeCells]
/-- What Class leaves. -/
def RclPost (w : World) (s : ByteArray) (e : Ending) (w' : World) : Prop :=
  (match classT s with
  | some set => ∃ a n c, e = .returned (.slice (some a) n c) ∧ RdX w' (fun b => w.heap.size ≤ b) 2 (some a) n (spanCells set) ∧ n ≤ c
  | none => e = .returned (.slice none 0 0)) ∧ Below w.heap.size w w'
set_option maxHeartbeats 6400000 in
set_option maxRecDepth 100000 in
theorem ref_class (s : ByteArray) (w : World) (hs : s.size ≤ maxLen) :
    Calls Tryz.prog 84 #[.string s] w (RclPost w s) := by
  obtain ⟨i0, hi, hz0, hy1, hz2⟩ := info_parts Tryz.info21
  obtain ⟨j0, hj, y0, y1, y2⟩ := info_parts infoSpan
  go_enter Tryz.func84, Tryz.ntmps84
  go_upto_block 0 with fail
  go_cut [3] (RcCut w s)
  case first =>
    by_cases h0 : s = cn0
    · subst h0
      have HR := Lib.hid (RcCut.new w cn0 cs0 2 (by decide +kernel) (by decide) (by decide) #[.int .i32 48, .int .i32 57] rfl rfl)
      unfold cn0
      go_wp2_with fail
      go_meet
      exact HR.out
    by_cases h1 : s = cn1
    · subst h1
      have HR := Lib.hid (RcCut.new w cn1 cs1 6 (by decide +kernel) (by decide) (by decide) #[.int .i32 97, .int .i32 122, .int .i32 223, .int .i32 246, .int .i32 248, .int .i32 255] rfl rfl)
      unfold cn1
      go_wp2_with fail
      go_meet
      exact HR.out
    by_cases h2 : s = cn2
    · subst h2
      have HR := Lib.hid (RcCut.new w cn2 cs2 6 (by decide +kernel) (by decide) (by decide) #[.int .i32 65, .int .i32 90, .int .i32 192, .int .i32 214, .int .i32 216, .int .i32 222] rfl rfl)
      unfold cn2
      go_wp2_with fail
      go_meet
      exact HR.out
    by_cases h3 : s = cn3
    · subst h3
      have HR := Lib.hid (RcCut.new w cn3 cs3 10 (by decide +kernel) (by decide) (by decide) #[.int .i32 65, .int .i32 90, .int .i32 97, .int .i32 122, .int .i32 192, .int .i32 214, .int .i32 216, .int .i32 246, .int .i32 248, .int .i32 255] rfl rfl)
      unfold cn3
      go_wp2_with fail
      go_meet
      exact HR.out
    by_cases h4 : s = cn4
    · subst h4
      have HT := Lib.hid (show classT cn4 = some cs4 by decide +kernel)
      unfold cn4
      go_wp2_with fail
      go_loopw [3] (VwRel w) (fun _ wr => 10 - wr.iterPos w.heap.size)
      case atStart => exact ⟨0, Nat.zero_le _, World.iter_heap _ _ _, World.ownsRow_nil _ _ _ _, (Below.refl _ _).alloc (Nat.le_refl _) _⟩
      case round =>
        obtain ⟨p, hp, hit, hown, hbel⟩ := hrel
        have hz := hbel.size
        have hit2 := iterPos_of hit
        by_cases hlt : p < 10
        · have hnext := fun ty => Lib.run_next_any_at (P := Tryz.prog) wr w.heap.size vowT p ty hit hlt
          obtain ⟨hd1, hd2⟩ := vow_decode p hlt
          have hit1 := Lib.iterAt_heap wr w.heap.size vowT p (p + (Utf8.decode vowT p).2) hit
          have hb1 := Lib.below_iterAt hbel (Nat.le_refl _) vowT (p + (Utf8.decode vowT p).2)
          have hown1 := ownsRow_iterAt hown (Nat.lt_succ_self _) vowT (p + (Utf8.decode vowT p).2)
          rw [hd2] at hit1 hb1 hnext hown1
          rw [hd1] at hnext
          have hstp := vow_step p hlt
          generalize wr.iterAt w.heap.size vowT (p + 1) = W1 at *
          generalize vowL.getD p 0 = x at *
          have hz1 := hb1.size
          obtain ⟨A3, c3, rfl, hc3⟩ := own_form hown1
          have HP3 := Lib.hid hit1
          have HIT2 := Lib.hid hit2
          have HS := Lib.hid hstp
          have HN := Lib.hid (Rd.new W1 21 1 2 [.int .i32 x, .int .i32 x] rfl)
          have HO := Lib.hid (World.ownsRow.alloc hown1 (.cells #[.int .i32 x, .int .i32 x] 21))
          have HB1 := Lib.hid (hb1.alloc hz1 (.cells #[.int .i32 x, .int .i32 x] 21))
          have hbb : w.heap.size + 1 ≤ (W1.alloc (.cells #[.int .i32 x, .int .i32 x] 21)).heap.size := by simp; omega
          clear hit hit1 hit2 hown hown1 hstp hd1 hd2
          go_wp2_with (at_builtin; refine wpList_append_rd _ rfl (.tmp 27) (.tmp 30) 61 rfl (w.heap.size + 1) 21 i0 _ 1 4 Tryz.underlying61 hi hz0 hy1 hz2 rfl (by decide) _ _ _ rfl HO.out (W1.heap.size + 1) (some ⟨W1.heap.size, 0, none⟩) 2 2 [.int .i32 x, .int .i32 x] rfl HN.out ?s1 (by simp only [maxLen]; omega) (by omega) hbb ?_)
          case s1 => intro u hu; simp at hu; rw [hu]; rfl
          intro v' w2 happ
          have HI3 := Lib.hid (iter_stays ((Below.heap_alloc W1 (.cells #[.int .i32 x, .int .i32 x] 21) w.heap.size (Array.getElem?_eq_some_iff.1 HP3.out).1).trans HP3.out) (Nat.lt_succ_self _) ⟨_, _, HO.out⟩ happ)
          have HO2 := Lib.hid (show w2.ownsRow (w.heap.size + 1) 21 1 v' (2 * (p + 1)) (runeCells (pairsL (cs4.take (p + 1)))) by have := happ.own; rw [HS.out]; exact this)
          have HB2 := Lib.hid (HB1.out.trans ((happ.below hbb HO.out).mono (by omega)))
          clear happ
          have HP4 := Lib.hid (iterPos_of HI3.out)
          go_wp2_with fail
          exact ⟨⟨p + 1, by omega, HI3.out, HO2.out, HB2.out⟩, by rw [HP4.out, HIT2.out]; omega⟩
        · have hnext := fun ty => Lib.run_next_end_at (P := Tryz.prog) wr w.heap.size vowT p ty hit hlt
          obtain rfl : p = 10 := by omega
          obtain ⟨A3, c3, rfl, hc3⟩ := own_form hown
          have HO := Lib.hid hown
          clear hit hit2 hown
          go_wp2_with fail
          go_meet
          exact ⟨_, _, _, cs4, rfl, .inl ⟨HT.out, by decide⟩, by decide, Rd.of_own HO.out, hbel⟩
    by_cases h5 : s = cn5
    · subst h5
      have HR := Lib.hid (RcCut.new w cn5 cs5 2 (by decide +kernel) (by decide) (by decide) #[.int .i32 880, .int .i32 1023] rfl rfl)
      unfold cn5
      go_wp2_with fail
      go_meet
      exact HR.out
    by_cases h6 : s = cn6
    · subst h6
      have HR := Lib.hid (RcCut.new w cn6 cs6 2 (by decide +kernel) (by decide) (by decide) #[.int .i32 1024, .int .i32 1279] rfl rfl)
      unfold cn6
      go_wp2_with fail
      go_meet
      exact HR.out
    by_cases h7 : s = cn7
    · subst h7
      have HR := Lib.hid (RcCut.new w cn7 cs7 4 (by decide +kernel) (by decide) (by decide) #[.int .i32 9, .int .i32 10, .int .i32 32, .int .i32 32] rfl rfl)
      unfold cn7
      go_wp2_with fail
      go_meet
      exact HR.out
    by_cases h8 : s = cn8
    · subst h8
      have HR := Lib.hid (RcCut.new w cn8 cs8 2 (by decide +kernel) (by decide) (by decide) #[.int .i32 0, .int .i32 1114111] rfl rfl)
      unfold cn8
      go_wp2_with fail
      go_meet
      exact HR.out
    have HN := Lib.hid (RcCut.none w s (by unfold classT putM; rw [if_neg h8, if_neg h7, if_neg h6, if_neg h5, if_neg h4, if_neg h3, if_neg h2, if_neg h1, if_neg h0]))
    have q0 : (s.toList == [100, 105, 103, 105, 116]) = false := no_text h0
    have q1 : (s.toList == [108, 111, 119, 101, 114]) = false := no_text h1
    have q2 : (s.toList == [117, 112, 112, 101, 114]) = false := no_text h2
    have q3 : (s.toList == [108, 101, 116, 116, 101, 114]) = false := no_text h3
    have q4 : (s.toList == [118, 111, 119, 101, 108]) = false := no_text h4
    have q5 : (s.toList == [103, 114, 101, 101, 107]) = false := no_text h5
    have q6 : (s.toList == [99, 121, 114, 105, 108, 108, 105, 99]) = false := no_text h6
    have q7 : (s.toList == [115, 112, 97, 99, 101]) = false := no_text h7
    have q8 : (s.toList == [97, 110, 121]) = false := no_text h8
    clear h0 h1 h2 h3 h4 h5 h6 h7 h8
    go_wp2_with fail
    go_meet
    exact HN.out
  case rest =>
    obtain ⟨A, n, c, S, rfl, hS, hS10, hrd, hb⟩ := hcut
    have hn : n = 2 * S.length := by have := hrd.1; rw [runeCells_length, pairsL_length] at this; omega
    have HRD := Lib.hid hrd
    have HB := Lib.hid hb
    have HS := Lib.hid hS
    have HNN := Lib.hid hn
    have hn20 : n ≤ 20 := by omega
    clear hrd hb hS hn
    go_wp2_with fail
    go_loopw [6, 7] (fun out i wr => ∃ j : Nat, j ≤ S.length ∧ i = .int .i64 ((2 * j : Nat) : Int) ∧ wr.ownsRow wc.heap.size 74 2 out j (spanCells (S.take j)) ∧ (j = 0 → out = .slice none 0 0) ∧ Below wc.heap.size wc wr) (fun _ i _ => n - (intOf i).toNat)
    case atStart => exact ⟨0, Nat.zero_le _, rfl, World.ownsRow_nil _ _ _ _, fun _ => rfl, Below.refl _ _⟩
    case round =>
      obtain ⟨j, hj0, rfl, hown, hnil, hbr⟩ := hrel
      by_cases hlt : j < S.length
      · obtain ⟨⟨x, y⟩, hx⟩ : ∃ z, S[j]? = some z := ⟨_, List.getElem?_eq_getElem hlt⟩
        obtain ⟨b, off, rfl, hbb, hcells⟩ := HRD.out.2 (by have := HNN.out; omega)
        obtain ⟨e0, e1⟩ := pairsL_at S j x y hx
        have d0 : wr.cell? ⟨b, off + 2 * j, none⟩ = some (.int .i32 x) := (hbr.cell (p := ⟨b, off + 2 * j, none⟩) hbb).trans (hcells _ _ (by rw [runeCells_at, e0]; rfl))
        have d1 : wr.cell? ⟨b, off + (2 * j + 1), none⟩ = some (.int .i32 y) := (hbr.cell (p := ⟨b, off + (2 * j + 1), none⟩) hbb).trans (hcells _ _ (by rw [runeCells_at, e1]; rfl))
        have HT := Lib.hid (show S.take (j + 1) = S.take j ++ [(x, y)] by rw [List.take_add_one, hx]; rfl)
        have hz := hbr.size
        obtain ⟨Av, cv, rfl, hcv⟩ := own_form hown
        have HO := Lib.hid hown
        have HBR := Lib.hid hbr
        have hlt2 : 2 * j + 1 < n := by have := HNN.out; omega
        have hg : decide (((2 * j : Nat) : Int) + 1 < (n : Int)) = true := decide_eq_true (by omega)
        have hw1 : IntKind.i64.wrap (((2 * j : Nat) : Int) + 1) = ((2 * j : Nat) : Int) + 1 := wrap_small _ (by omega) (by omega)
        have hw2 : IntKind.i64.wrap (((2 * j : Nat) : Int) + 2) = ((2 * j : Nat) : Int) + 2 := wrap_small _ (by omega) (by omega)
        clear hx e0 e1 hcells hown hbr hnil
        have HO1 := Lib.hid (World.ownsRow.alloc HO.out (.cells #[.int .i32 x, .int .i32 y] 74))
        have HB1 := Lib.hid (HBR.out.alloc hz (.cells #[.int .i32 x, .int .i32 y] 74))
        have HN := Lib.hid (Rd.new wr 74 2 1 [.int .i32 x, .int .i32 y] rfl)
        generalize hm : 2 * j = m at *
        have HM := Lib.hid hm
        clear hm
        have hj10 : j ≤ 10 := by omega
        have k0 : (0 : Int) ≤ (m : Int) := by omega
        have k1 : (m : Int) < (n : Int) := by omega
        have k2 : (0 : Int) ≤ (m : Int) + 1 := by omega
        have k3 : (m : Int) + 1 < (n : Int) := by omega
        go_upto_region 28 with fail
        refine wp_region_till (S := (fun w' => w'.cell? ⟨b, off + m, none⟩ = some (.int .i32 x) ∧ w'.cell? ⟨b, off + (m + 1), none⟩ = some (.int .i32 y))) [4, 9] (by kernel_rfl) ⟨d0, d1⟩ (fun hHeld => ?_)
        refine wpTill_pure (i := 0) (oi := ⟨some 51, _, _, _, _, _⟩) (v := ?_) rfl (by kernel_rfl) (by kernel_rfl) (by kernel_rfl) (fun _ _ _ h => h) (Or.inl ⟨by rfl, ?_⟩) ?_
        rotate_left 1
        · intro wq _
          go_simp
          try with_reducible rfl
        try simp only [Act.put, List.setIfInBounds_toArray, List.set_cons_zero, List.set_cons_succ]
        refine wpTill_pure (i := 1) (oi := ⟨some 52, _, _, _, _, _⟩) (v := ?_) rfl (by kernel_rfl) (by kernel_rfl) (by kernel_rfl) (fun _ _ _ h => h) (Or.inl ⟨by rfl, ?_⟩) ?_
        rotate_left 1
        · intro wq _
          go_simp
          try with_reducible rfl
        try simp only [Act.put, List.setIfInBounds_toArray, List.set_cons_zero, List.set_cons_succ]
        refine wpTill_pure (i := 2) (oi := ⟨some 53, _, _, _, _, _⟩) (v := ?_) rfl (by kernel_rfl) (by kernel_rfl) (by kernel_rfl) (fun _ _ _ h => h) (Or.inl ⟨by rfl, ?_⟩) ?_
        rotate_left 1
        · intro wq _
          go_simp
          try with_reducible rfl
        try simp only [Act.put, List.setIfInBounds_toArray, List.set_cons_zero, List.set_cons_succ]
        refine wpTill_pure (i := 3) (oi := ⟨some 54, _, _, _, _, _⟩) (v := ?_) rfl (by kernel_rfl) (by kernel_rfl) (by kernel_rfl) (fun _ _ _ h => h) (Or.inl ⟨by rfl, ?_⟩) ?_
        rotate_left 1
        · intro wq _
          go_simp
          try with_reducible rfl
        try simp only [Act.put, List.setIfInBounds_toArray, List.set_cons_zero, List.set_cons_succ]
        refine wpTill_take (i := 4) (oi := ⟨some 55, _, _, _, _, _⟩) (v := ?_) rfl (by kernel_rfl) (by kernel_rfl) (by kernel_rfl) (by kernel_rfl) (by kernel_rfl) (fun _ _ _ h => h) (Or.inl ⟨by rfl, ?_⟩) (by assumption) ?_
        rotate_left 1
        · intro wq hSw
          (try dsimp only at hSw)
          go_simp
          try with_reducible rfl
        try simp only [Act.put, List.setIfInBounds_toArray, List.set_cons_zero, List.set_cons_succ]
        refine wpTill_pure (i := 5) (oi := ⟨some 56, _, _, _, _, _⟩) (v := ?_) rfl (by kernel_rfl) (by kernel_rfl) (by kernel_rfl) (fun _ _ _ h => h) (Or.inl ⟨by rfl, ?_⟩) ?_
        rotate_left 1
        · intro wq _
          go_simp
          try with_reducible rfl
        try simp only [Act.put, List.setIfInBounds_toArray, List.set_cons_zero, List.set_cons_succ]
        refine wpTill_pure (i := 6) (oi := ⟨some 57, _, _, _, _, _⟩) (v := ?_) rfl (by kernel_rfl) (by kernel_rfl) (by kernel_rfl) (fun _ _ _ h => h) (Or.inl ⟨by rfl, ?_⟩) ?_
        rotate_left 1
        · intro wq _
          go_simp
          try with_reducible rfl
        try simp only [Act.put, List.setIfInBounds_toArray, List.set_cons_zero, List.set_cons_succ]
        refine wpTill_pure (i := 7) (oi := ⟨some 58, _, _, _, _, _⟩) (v := ?_) rfl (by kernel_rfl) (by kernel_rfl) (by kernel_rfl) (fun _ _ _ h => h) (Or.inl ⟨by rfl, ?_⟩) ?_
        rotate_left 1
        · intro wq _
          go_simp
          try with_reducible rfl
        try simp only [Act.put, List.setIfInBounds_toArray, List.set_cons_zero, List.set_cons_succ]
        refine wpTill_pure (i := 8) (oi := ⟨some 59, _, _, _, _, _⟩) (v := ?_) rfl (by kernel_rfl) (by kernel_rfl) (by kernel_rfl) (fun _ _ _ h => h) (Or.inl ⟨by rfl, ?_⟩) ?_
        rotate_left 1
        · intro wq _
          go_simp
          try with_reducible rfl
        try simp only [Act.put, List.setIfInBounds_toArray, List.set_cons_zero, List.set_cons_succ]
        refine wpTill_take (i := 9) (oi := ⟨some 60, _, _, _, _, _⟩) (v := ?_) rfl (by kernel_rfl) (by kernel_rfl) (by kernel_rfl) (by kernel_rfl) (by kernel_rfl) (fun _ _ _ h => h) (Or.inl ⟨by rfl, ?_⟩) (by assumption) ?_
        rotate_left 1
        · intro wq hSw
          (try dsimp only at hSw)
          go_simp
          try with_reducible rfl
        try simp only [Act.put, List.setIfInBounds_toArray, List.set_cons_zero, List.set_cons_succ]
        refine wpTill_pure (i := 10) (oi := ⟨some 61, _, _, _, _, _⟩) (v := ?_) rfl (by kernel_rfl) (by kernel_rfl) (by kernel_rfl) (fun _ _ _ h => h) (Or.inl ⟨by rfl, ?_⟩) ?_
        rotate_left 1
        · intro wq _
          go_simp
          try with_reducible rfl
        try simp only [Act.put, List.setIfInBounds_toArray, List.set_cons_zero, List.set_cons_succ]
        refine wpTill_late (i := 11) (o := ⟨some 62, _, _, _, _, _⟩) (by kernel_rfl) rfl (by kernel_rfl) (fun K hK => ?_)
        go_simp
        try dsimp only
        refine hK.out _ _ ?_
        clear hK K
        try simp only [Act.put, List.setIfInBounds_toArray, List.set_cons_zero, List.set_cons_succ]
        refine wpTill_late (i := 12) (o := ⟨some 63, _, _, _, _, _⟩) (by kernel_rfl) rfl (by kernel_rfl) (fun K hK => ?_)
        refine step_append_rd _ rfl (.tmp 51) (.tmp 62) 22 rfl wc.heap.size 74 j0 _ 2 8 Tryz.underlying22 hj y0 y1 y2 rfl (by decide) _ _ _ rfl HO1.out (wr.heap.size + 1) (some ⟨wr.heap.size, 0, none⟩) 1 1 [.int .i32 x, .int .i32 y] rfl HN.out (span_one _ _) (by simp only [maxLen]; omega) (by omega) HB1.out.size ?_
        intro v' w9 happ
        try dsimp only
        refine hK.out _ _ ?_
        clear hK K
        have HB9 := Lib.hid ((below_drew1 HB1.out).trans (happ.below (below_drew1 HB1.out).size HO1.out))
        have HO9 := Lib.hid (show w9.ownsRow wc.heap.size 74 2 v' (j + 1) (spanCells (S.take (j + 1))) by rw [HT.out, spanCells_snoc]; exact happ.own)
        clear happ
        try simp only [Act.put, List.setIfInBounds_toArray, List.set_cons_zero, List.set_cons_succ]
        refine wpTill_pure (i := 13) (oi := ⟨some 6, _, _, _, _, _⟩) (v := ?_) rfl (by kernel_rfl) (by kernel_rfl) (by kernel_rfl) (fun _ _ _ h => h) (Or.inl ⟨by rfl, ?_⟩) ?_
        rotate_left 1
        · intro wq _
          go_simp
          try with_reducible rfl
        try simp only [Act.put, List.setIfInBounds_toArray, List.set_cons_zero, List.set_cons_succ]
        refine wpTill_done (by kernel_rfl) ?_ _
        go_simp
        go_wp2_with fail
        exact ⟨⟨j + 1, by omega, by rw [show ((2 * (j + 1) : Nat) : Int) = (m : Int) + 2 by have := HM.out; omega], HO9.out, fun h => absurd h (by omega), HB9.out⟩, by simp [intOf]; omega⟩
      · obtain rfl : j = S.length := by omega
        generalize hm : 2 * S.length = m at *
        have hm20 : m ≤ 20 := by have := HNN.out; omega
        have hg : decide ((m : Int) + 1 < (n : Int)) = false := decide_eq_false (by have := HNN.out; omega)
        rw [List.take_length] at hown
        have HO := Lib.hid hown
        have HN := Lib.hid hnil
        have HBR := Lib.hid hbr
        have hz := hbr.size
        clear hown hnil hbr
        go_wp2_with fail
        go_ret
        unfold RclPost
        rcases HS.out with ⟨h1, h2⟩ | ⟨h1, rfl⟩
        · rw [h1]
          obtain ⟨g, cv, rfl, hcv, hg0, hg1⟩ := own_some HO.out (List.length_pos_iff.2 h2)
          exact ⟨⟨_, _, _, rfl, RdX.of_own HO.out (fun b hb => Nat.le_trans HB.out.size (own_lt HO.out hb).1), hcv⟩, HB.out.trans (HBR.out.mono HB.out.size)⟩
        · rw [h1]
          have hh := HN.out rfl
          subst hh
          exact ⟨rfl, HB.out.trans (HBR.out.mono HB.out.size)⟩

end Go.Proofs.YthnhbcohfoodlaaGreatDoor
