/- SortSpan + SetFour + CurSpan -/
import Derived.Test.YthnhbcohfoodlaaGreatDoorShelf2
import Derived.Test.YthnhbcohfoodlaaGreatDoorShelf
import Derived.Test.YthnhbcohfoodlaaGreatDoorZt13
import Derived.Test.YthnhbcohfoodlaaGreatDoorZt31
import Derived.Test.YthnhbcohfoodlaaGreatDoorZt17
import Derived.Test.YthnhbcohfoodlaaGreatDoorZt35
namespace Go.Proofs.YthnhbcohfoodlaaGreatDoor
open Go.RowKit
def spanEnc (x : Int × Int) : List Value := [.int .i32 x.1, .int .i32 x.2]
def spanCmp (x y : Int × Int) : Int := Lib.compareInt x.1 y.1
theorem ltSpan (x y : Int × Int) : ltOf spanCmp x y = decide (x.1 < y.1) := by
 unfold ltOf spanCmp Lib.compareInt
 by_cases h1 : x.1 < y.1
 ·simp [h1]
 ·by_cases h2 : y.1 < x.1 <;> simp [h1, h2]
theorem swoSpan : Sort.SWO (ltOf spanCmp) where
 irrefl x := by rw [ltSpan]; simp
 trans x y z h1 h2 := by rw [ltSpan] at *; simp at *; omega
 ntrans x y z h1 h2 := by rw [ltSpan] at *; simp at *; omega
theorem is_nan (x : Int) (w : World) : Calls Tryz.prog 145 #[.int .i32 x] w fun e w' => e = .returned (.bool false) ∧ w' = w := by
 have h : (x != x) = false := by simp
 go_enter Tryz.func145, Tryz.ntmps145
 go_wp2_with fail
 go_ret
 exact ⟨rfl, rfl⟩
theorem cmp_rune (x y : Int) (w : World) : Calls Tryz.prog 92 #[.int .i32 x, .int .i32 y] w fun e w' => e = .returned (.int .i64 (Lib.compareInt x y)) ∧ w' = w := by
 unfold Lib.compareInt
 by_cases h1 : x < y
 ·rw [if_pos h1]
  go_enter Tryz.func92, Tryz.ntmps92
  go_wp2_with (go_at_call 145; refine (is_nan _ _).mono ?_; rintro e w' ⟨rfl, rfl⟩)
  go_ret
  exact ⟨rfl, rfl⟩
 ·rw [if_neg h1]
  by_cases h2 : x > y
  ·rw [if_pos h2]
   go_enter Tryz.func92, Tryz.ntmps92
   go_wp2_with (go_at_call 145; refine (is_nan _ _).mono ?_; rintro e w' ⟨rfl, rfl⟩)
   go_ret
   exact ⟨rfl, rfl⟩
  ·rw [if_neg h2]
   go_enter Tryz.func92, Tryz.ntmps92
   go_wp2_with (go_at_call 145; refine (is_nan _ _).mono ?_; rintro e w' ⟨rfl, rfl⟩)
   go_ret
   exact ⟨rfl, rfl⟩
set_option maxHeartbeats 1000000 in
theorem of_cmp (x y : Int × Int) (W : World) : Calls Tryz.prog 91 #[.agg #[.int .i32 x.1, .int .i32 x.2], .agg #[.int .i32 y.1, .int .i32 y.2]] W fun e w' => e = .returned (.int .i64 (spanCmp x y)) ∧ ∃ q os', w' = Sort.grow (W.drewN q) os' := by
 have hcon := fun W' => cmp_rune x.1 y.1 W'
 unfold spanCmp
 generalize Lib.compareInt x.1 y.1 = r at hcon ⊢
 go_enter Tryz.func91, Tryz.ntmps91
 go_wp2_with (go_at_call 92; refine (hcon _).mono ?_; rintro e w' ⟨rfl, rfl⟩)
 go_ret
 exact ⟨rfl, 0, _, by rw [Sort.alloc_eq_grow, Sort.alloc_eq_grow, Sort.grow_grow]; rfl⟩
theorem of_lays (blk off size : Nat) (w : World) : CmpLays Tryz.prog 91 #[] spanEnc 2 spanCmp blk off size w := fun _ _ _ _ x y => of_cmp x y _
theorem spanCells_flat (l : Spans) (t : Nat) (h : t < l.length * 2) : (spanCells l)[t]? = some ((spanEnc (l.toArray[t / 2]!))[t % 2]!) := by
 have hk : t / 2 < l.length := by omega
 obtain ⟨⟨x, y⟩, hx⟩ : ∃ z, l[t / 2]? = some z := ⟨_, List.getElem?_eq_getElem hk⟩
 obtain ⟨c0, c1⟩ := spanCells_at l (t / 2) x y hx
 have hg : l.toArray[t / 2]! = (x, y) := by
  rw [getElem!_pos l.toArray (t / 2) (by simpa using hk)]
  simp only [List.getElem_toArray]
  exact (List.getElem?_eq_some_iff.1 hx).2
 rw [hg]
 rcases Nat.mod_two_eq_zero_or_one t with h0 | h0
 ·rw [h0]
  have e : t = t / 2 * 2 := by omega
  rw [← e] at c0
  exact c0
 ·rw [h0]
  have e : t = t / 2 * 2 + 1 := by omega
  rw [← e] at c1
  exact c1
theorem sorted_spans {l : Spans} {n : Nat} {d' : Array (Int × Int)} (hn : l.length = n) (hp : Sort.PermIn 0 n l.toArray d') (hs : Sort.SortedIn (ltOf spanCmp) 0 n d') :
 d'.size = n ∧ l.Perm d'.toList ∧ d'.toList.Pairwise (fun a b => a.1 ≤ b.1) := by
 obtain ⟨h1, _, h3⟩ := hp
 have hsz : d'.size = n := by rw [h1]; simpa using hn
 have e1 : (d'.extract 0 n).toList = d'.toList := by rw [← hsz]; simp
 have e2 : (l.toArray.extract 0 n).toList = l := by rw [← hn]; simp
 rw [e1, e2] at h3
 refine ⟨hsz, h3.symm, List.pairwise_iff_getElem.2 fun i j hi hj hij => ?_⟩
 have hi' : i < d'.size := by simpa using hi
 have hj' : j < d'.size := by simpa using hj
 have := hs i j (Nat.zero_le _) hij (by omega)
 rw [ltSpan, getElem!_pos d' i hi', getElem!_pos d' j hj', decide_eq_false_iff_not] at this
 simp only [Array.getElem_toList]
 omega
theorem sortWorld_but (w : World) (g m : Nat) (dk : Array (Int × Int)) (os : Array Obj) : But w g (sortWorldK spanEnc 2 w g 0 m dk os) := by
 unfold sortWorldK Sort.putRowK Sort.putRow Sort.mapBlock Sort.grow Sort.ahead
 refine ⟨by simp, rfl, rfl, rfl, fun k hk hne => ?_⟩
 simp only
 rw [Array.getElem?_append_left (by simpa using hk), Array.getElem?_modify, if_neg (Ne.symm hne)]
set_option maxHeartbeats 1000000 in
theorem sort_spans (g n c base : Nat) (l : Spans) (w : World) (hn : n ≤ 100000) (hl : l.length = n) (ho : w.ownsRow base 74 2 (.slice (some ⟨g, 0, none⟩) n c) n (spanCells l)) :
 Calls Tryz.prog 90 #[.slice (some ⟨g, 0, none⟩) n c, .func (.func 91) #[] #[]] w fun e w' => e = .returned (.tuple #[]) ∧ But w g w' ∧
  ∃ l', l.Perm l' ∧ l'.Pairwise (fun a b => a.1 ≤ b.1) ∧ RdS w' w'.heap.size (some ⟨g, 0, none⟩) n l' := by
 have hg := (own_lt ho rfl).2
 have hH : Sort.HoldsK spanEnc 2 w g 0 l.toArray := by
  intro j hj
  rw [Sort.size_flatK] at hj
  have hj2 : j < l.length * 2 := by simpa using hj
  rw [Sort.get_flatK _ _ _ _ (by simpa using hj2), Nat.zero_add]
  refine ⟨?_, ho.frozenAt _⟩
  rw [ho.cellAt _ (by omega)]
  exact spanCells_flat l j hj2
 have hsz : l.toArray.size = n := by simpa using hl
 have eg : ∀ args w, (callFunc 91 args).run Tryz.prog w = .ok (.enter 91 args) w := enters_of Tryz.func91 (by kernel_rfl) rfl
 have hcon := AnyQ.slices_SortFunc Tryz.sortSpan 2 Tryz.isAgg74 Tryz.sizeOf74 spanEnc (fun _ => rfl) (fun x v hv => by simp [spanEnc] at hv; rcases hv with rfl | rfl <;> rfl) spanCmp swoSpan 91 #[] g 0 c l.toArray w eg (of_lays g 0 _ w) hH hg (by rw [hsz]; omega)
 rw [hsz] at hcon
 refine Calls.mono hcon ?_
 rintro e w' ⟨rfl, d', m, os, hp, hs, rfl⟩
 obtain ⟨h1, h2, h3⟩ := sorted_spans hl hp hs
 refine ⟨rfl, sortWorld_but _ _ _ _ _, d'.toList, h2, h3, ⟨by rw [spanCells_length]; simp [h1], fun h0 => ⟨g, 0, rfl, Nat.lt_of_lt_of_le hg (sortWorld_but w g m d' os).1, fun j u hu => ?_⟩⟩⟩
 have hj : j < d'.toList.length * 2 := by have := (List.getElem?_eq_some_iff.1 hu).1; rwa [spanCells_length] at this
 rw [spanCells_flat _ j hj] at hu
 have hK := holdsK_sortWorldK_c spanEnc 2 w g 0 l.toArray d' m os hH hg (by rw [h1, hsz])
 have := (hK j (by rw [Sort.size_flatK]; simpa using hj)).1
 rw [Sort.get_flatK _ _ _ _ (by simpa using hj)] at this
 rw [this]
 simpa using hu
set_option maxHeartbeats 1000000 in
theorem sort_nil (w : World) :
 Calls Tryz.prog 90 #[.slice none 0 0, .func (.func 91) #[] #[]] w fun e w' => e = .returned (.tuple #[]) ∧ w' = w := by
 have H1 := Lib.hid (show Calls Tryz.prog 168 #[.slice none 0 0, .int .i64 0, .int .i64 0, .func (.func 91) #[] #[]] w fun e w' => e = .returned (.tuple #[]) ∧ w' = w by
  go_enter Tryz.func168, Tryz.ntmps168
  go_wp2_with fail
  go_loopw [8] (fun i wr => i = .int .i64 1 ∧ wr = w) (fun _ _ => 0)
  case atStart => exact ⟨rfl, rfl⟩
  case round =>
   obtain ⟨rfl, rfl⟩ := hrel
   go_wp2_with fail
   go_end0
   exact ⟨rfl, rfl⟩)
 have H2 := Lib.hid (fun (x : Int) => show Calls Tryz.prog 143 #[.slice none 0 0, .int .i64 0, .int .i64 0, .int .i64 x, .func (.func 91) #[] #[]] w fun e w' => e = .returned (.tuple #[]) ∧ w' = w by
  go_enter Tryz.func143, Tryz.ntmps143
  go_wp2_with fail
  go_loopw [1, 2, 3] (fun a b c wr => a = .int .i64 0 ∧ b = .int .i64 0 ∧ c = .int .i64 x ∧ wr = w) (fun _ _ _ _ => 0)
  case atStart => exact ⟨rfl, rfl, rfl, rfl⟩
  case round =>
   obtain ⟨rfl, rfl, rfl, rfl⟩ := hrel
   go_wp2_with fail
   refine H1.out.mono ?_
   rintro e w1 ⟨rfl, rfl⟩
   go_wp2_with fail
   (try simp only [Exit.inBlock, Exit.then])
   refine bodyPost_ret (results_none rfl _ _ _) rfl ?_
   exact ⟨rfl, rfl⟩)
 have H3 := Lib.hid (show Calls Tryz.prog 144 #[.int .u64 0] w fun e w' => e = .returned (.int .i64 (Lib.bitLen 0 : Nat)) ∧ w' = w from Tryz.bits_Len 0 w (by decide) (by decide))
 go_enter Tryz.func90, Tryz.ntmps90
 go_wp2_with (first | (go_at_call 144; refine H3.out.mono ?_; rintro e w1 ⟨rfl, rfl⟩) | (go_at_call 143; refine (H2.out _).mono ?_; rintro e w1 ⟨rfl, rfl⟩))
 go_end0
 exact ⟨rfl, rfl⟩
end Go.Proofs.YthnhbcohfoodlaaGreatDoor

namespace Go.Proofs.YthnhbcohfoodlaaGreatDoor
open Go.RowKit
def SetTuple (w : World) (r : Spans × Int) (e : Ending) (w' : World) : Prop := ∃ A' n' c', e = .returned (.tuple #[.slice A' n' c', .int .i64 r.2]) ∧ RdX w' (fun b => w.heap.size ≤ b) 2 A' n' (spanCells r.1) ∧ n' ≤ 200 ∧ n' ≤ c' ∧ Below w.heap.size w w'
theorem SetTuple.of_fit {w w1 : World} {A : Option Addr} {n c : Nat} {s : Spans} {e : Ending} {w' : World} (h1 : RdX w1 (fun b => w.heap.size ≤ b) 2 A n (spanCells s)) (hc : n ≤ c) (hb : Below w.heap.size w w1)
 (he : e = .returned (if 200 < n then .tuple #[.slice none 0 0, .int .i64 5] else .tuple #[.slice A n c, .int .i64 0]) ∧ w' = w1) : SetTuple w (fitP s) e w' := by
 obtain ⟨rfl, rfl⟩ := he
 have hl : s.length = n := by have := h1.1; rw [spanCells_length] at this; omega
 unfold fitP
 rw [hl]
 by_cases h : 200 < n
 ·rw [if_pos h, if_pos h]
  exact ⟨none, 0, 0, rfl, ⟨rfl, fun h => absurd h (by omega)⟩, by omega, by omega, hb⟩
 ·rw [if_neg h, if_neg h]
  exact ⟨A, n, c, rfl, h1, by omega, hc, hb⟩
theorem RdX.lift {w : World} {X X' : Nat → Prop} {sz n : Nat} {A : Option Addr} {xs : List Value} (h : RdX w X sz A n xs) (hX : ∀ b, X b → X' b) : RdX w X' sz A n xs := h.keep (Keeps.refl hX)
def OfRel (w : World) (n : Nat) (i : Value) (wr : World) : Prop := ∃ j : Nat, j ≤ n ∧ i = .int .i64 j ∧ Below w.heap.size w wr
def OfPost (w : World) (l : Spans) (e : Ending) (w' : World) : Prop := ∃ l', l.Perm l' ∧ l'.Pairwise (fun a b => a.1 ≤ b.1) ∧ SetTuple w (fitP (mergedP l')) e w'
set_option maxHeartbeats 3200000 in
set_option maxRecDepth 100000 in
theorem sets_of (A : Option Addr) (n c : Nat) (l : Spans) (w : World) (hn : n ≤ 1000) (hr : InRange l) (hl : RdS w w.heap.size A n l) :
 Calls Tryz.prog 50 #[.slice A n c] w (OfPost w l) := by
 have HLEN := Lib.hid hl.len
 have HL := Lib.hid hl
 have HR := Lib.hid hr
 clear hl hr
 go_enter Tryz.func50, Tryz.ntmps50
 go_wp2_with fail
 go_loopw [9] (OfRel w n) (fun i _ => n - (intOf i).toNat)
 case atStart => exact ⟨0, Nat.zero_le _, rfl, Below.refl _ _⟩
 case round =>
  obtain ⟨j, hj, rfl, hb⟩ := hrel
  have hz := hb.size
  by_cases hlt : j < n
  ·obtain ⟨⟨x, y⟩, hx⟩ : ∃ z, l[j]? = some z := ⟨_, List.getElem?_eq_getElem (by rw [HLEN.out]; exact hlt)⟩
   obtain ⟨b, off, rfl, hbb, c0, c1⟩ := HL.out.at hx
   have d0 := (hb.cell (p := ⟨b, off + j * 2, none⟩) hbb).trans c0
   have d1 := (hb.cell (p := ⟨b, off + j * 2 + 1, none⟩) hbb).trans c1
   have hxy := HR.out (x, y) (List.mem_of_getElem? hx)
   simp only at hxy
   have HB1 := Lib.hid (hb.alloc hz (.cells #[.int .i32 x, .int .i32 y] 74))
   have g1 : decide (x < 0) = false := decide_eq_false (by omega)
   have g2 : decide (1114111 < y) = false := decide_eq_false (by omega)
   have g3 : decide (y < x) = false := decide_eq_false (by omega)
   clear hx c0 c1 hb
   go_wp2_with fail
   exact ⟨⟨j + 1, by omega, by go_num, HB1.out⟩, by simp [intOf]; omega⟩
  ·obtain rfl : j = n := by omega
   have HCL := Lib.hid (clone_spans A j c l wr (by omega) ((Rd.below HL.out hb).more hz))
   have HB := Lib.hid hb
   clear hb
   go_wp2_with fail
   refine HCL.out.mono ?_
   rintro e w1 ⟨⟨v, rfl, ho⟩, hb1⟩
   have HB1 := Lib.hid (HB.out.trans (hb1.mono hz))
   have HO1 := Lib.hid (own_mono ho hz)
   clear hb1 HCL
   have HWL := Lib.hid (own_form ho)
   rcases ho.2 with ⟨rfl, hn0⟩ | ⟨g, cap, cur, rfl, hg, hh, hrest⟩
   ·obtain rfl : j = 0 := hn0
    have hl0 : l = [] := List.eq_nil_of_length_eq_zero HLEN.out
    subst hl0
    clear ho HWL
    go_wp2_with fail
    refine (sort_nil _).mono ?_
    rintro e w2 ⟨rfl, rfl⟩
    have HM := Lib.hid (sets_merged none 0 0 [] w2 (by omega) (by intro x hx; simp at hx) Rd.nil)
    go_wp2_with fail
    refine HM.out.mono ?_
    rintro e w3 ⟨A3, n3, c3, rfl, hr3, hn3, hc3, hb3⟩
    have HB3 := Lib.hid (HB1.out.trans (hb3.mono HB1.out.size))
    have HP := Lib.hid (fun (e : Ending) (w' : World) h => show SetTuple w (fitP (mergedP [])) e w' from SetTuple.of_fit (hr3.lift (X' := fun b => w.heap.size ≤ b) (fun _ h => Nat.le_trans HB1.out.size h)) hc3 HB3.out h)
    clear hr3 hb3
    go_wp2_with fail
    refine (sets_fit A3 n3 c3 w3).mono ?_
    rintro e w4 he
    obtain ⟨A5, n5, c5, rfl, h5⟩ := HP.out e w4 he
    have H5 := Lib.hid h5
    clear h5 he HP
    go_wp2_with fail
    go_ret2
    exact ⟨[], List.Perm.nil, List.Pairwise.nil, A5, n5, c5, rfl, H5.out⟩
   ·have HS := Lib.hid (sort_spans g j cap w.heap.size l w1 (by omega) HLEN.out HO1.out)
    have HGW := Lib.hid (Nat.le_trans hz hg)
    clear ho HWL hrest hh hg
    go_wp2_with fail
    refine HS.out.mono ?_
    rintro e w2 ⟨rfl, hbut, l', hp, hpw, hrd⟩
    have HB2 := Lib.hid (HB1.out.trans (hbut.to HB1.out.size HGW.out))
    have HR2 := Lib.hid (show InRange l' from fun x hx => HR.out x (hp.mem_iff.2 hx))
    have HP := Lib.hid hp
    have HPW := Lib.hid hpw
    have HM := Lib.hid (sets_merged (some ⟨g, 0, none⟩) j cap l' w2 (by omega) HR2.out hrd)
    clear hbut hp hpw hrd HS
    go_wp2_with fail
    refine HM.out.mono ?_
    rintro e w3 ⟨A3, n3, c3, rfl, hr3, hn3, hc3, hb3⟩
    have HB3 := Lib.hid (HB2.out.trans (hb3.mono HB2.out.size))
    have HT := Lib.hid (fun (e : Ending) (w' : World) h => show SetTuple w (fitP (mergedP l')) e w' from SetTuple.of_fit (hr3.lift (X' := fun b => w.heap.size ≤ b) (fun _ h => Nat.le_trans HB2.out.size h)) hc3 HB3.out h)
    clear hr3 hb3
    go_wp2_with fail
    refine (sets_fit A3 n3 c3 w3).mono ?_
    rintro e w4 he
    obtain ⟨A5, n5, c5, rfl, h5⟩ := HT.out e w4 he
    have H5 := Lib.hid h5
    clear h5 he HT
    go_wp2_with fail
    go_ret2
    exact ⟨l', HP.out, HPW.out, A5, n5, c5, rfl, H5.out⟩
structure SetArg (w : World) (A : Option Addr) (n c : Nat) (s : Spans) : Prop where
 right : RightSet s
 rd : RdS w w.heap.size A n s
 cap : n ≤ c
theorem SetArg.below {w w' : World} {A : Option Addr} {n c : Nat} {s : Spans} (h : SetArg w A n c s) (hb : Below w.heap.size w w') : SetArg w' A n c s := ⟨h.right, (Rd.below h.rd hb).more hb.size, h.cap⟩
theorem SetArg.le {w : World} {A : Option Addr} {n c : Nat} {s : Spans} (h : SetArg w A n c s) : n ≤ 200 := by have := h.rd.len; have := h.right.size; omega
theorem SetArg.setC {w : World} {A : Option Addr} {n c : Nat} {s : Spans} (h : SetArg w A n c s) : SetC w Any0 s [.slice A n c] :=
 ⟨_, rfl, A, n, c, rfl, RdX.of_rd h.rd (Nat.le_refl _) (fun _ _ => trivial), by have := h.le; simp only [maxLen]; omega⟩
theorem sets_one {w : World} {A : Option Addr} {n c : Nat} {s : Spans} (h : SetArg w A n c s) :
 ListX (SetC (w.alloc (.cells #[.slice A n c] 22)) Any0) (w.alloc (.cells #[.slice A n c] 22)) Any0 1 (some ⟨w.heap.size, 0, none⟩) 1 [s] := by
 have hb := (Below.refl w.heap.size w).alloc (Nat.le_refl _) (.cells #[.slice A n c] 22)
 refine ⟨[[.slice A n c]], rfl, rfl, ?_, by simp, RdX.new 22 [.slice A n c] rfl trivial⟩
 intro i a cs ha hc
 rcases i with _ | i
 ·simp at ha hc; subst ha hc; exact (h.below hb).setC
 ·simp at ha
theorem sets_two {w : World} {A B : Option Addr} {n c m d : Nat} {a b : Spans} (ha : SetArg w A n c a) (hb : SetArg w B m d b) :
 ListX (SetC (w.alloc (.cells #[.slice A n c, .slice B m d] 22)) Any0) (w.alloc (.cells #[.slice A n c, .slice B m d] 22)) Any0 1 (some ⟨w.heap.size, 0, none⟩) 2 [a, b] := by
 have hbl := (Below.refl w.heap.size w).alloc (Nat.le_refl _) (.cells #[.slice A n c, .slice B m d] 22)
 refine ⟨[[.slice A n c], [.slice B m d]], rfl, rfl, ?_, by simp, RdX.new 22 [.slice A n c, .slice B m d] rfl trivial⟩
 intro i x cs hx hc
 match i with
 | 0 => simp at hx hc; subst hx hc; exact (ha.below hbl).setC
 | 1 => simp at hx hc; subst hx hc; exact (hb.below hbl).setC
 | i + 2 => simp at hx
theorem right_one_call {w : World} {A : Option Addr} {n c : Nat} {s : Spans} (h : SetArg w A n c s) :
 Calls Tryz.prog 49 #[.slice (some ⟨w.heap.size, 0, none⟩) 1 1] (w.alloc (.cells #[.slice A n c] 22)) fun e w' => e = .returned (.int .i64 0) ∧ Below w.heap.size w w' :=
 (sets_right Any0 [s] _ 1 1 _ (by decide) (by simpa using h.right) (sets_one h)).mono fun _ _ ⟨he, hb⟩ => ⟨he, ((Below.refl _ _).alloc (Nat.le_refl _) _).trans (hb.mono (by simp))⟩
theorem right_two_call {w : World} {A B : Option Addr} {n c m d : Nat} {a b : Spans} (ha : SetArg w A n c a) (hb : SetArg w B m d b) :
 Calls Tryz.prog 49 #[.slice (some ⟨w.heap.size, 0, none⟩) 2 2] (w.alloc (.cells #[.slice A n c, .slice B m d] 22)) fun e w' => e = .returned (.int .i64 0) ∧ Below w.heap.size w w' :=
 (sets_right Any0 [a, b] _ 2 2 _ (by decide) (by simpa using ⟨ha.right, hb.right⟩) (sets_two ha hb)).mono fun _ _ ⟨he, hb⟩ => ⟨he, ((Below.refl _ _).alloc (Nat.le_refl _) _).trans (hb.mono (by simp))⟩
theorem concat_two_call {w : World} {A B : Option Addr} {n c m d : Nat} {a b : Spans} (ha : SetArg w A n c a) (hb : SetArg w B m d b) :
 Calls Tryz.prog 51 #[.slice (some ⟨w.heap.size, 0, none⟩) 2 2] (w.alloc (.cells #[.slice A n c, .slice B m d] 22)) fun e w' =>
  ∃ A' c' k, e = .returned (.slice A' k c') ∧ k ≤ 1000 ∧ RdS w' w'.heap.size A' k (a ++ b) ∧ Below w.heap.size w w' := by
 have hbl := (Below.refl w.heap.size w).alloc (Nat.le_refl _) (.cells #[.slice A n c, .slice B m d] 22)
 have hf : [a, b].flatten = a ++ b := by simp
 have h := concat_spans [a, b] [.slice A n c, .slice B m d] (some ⟨w.heap.size, 0, none⟩) 2 2 (w.alloc (.cells #[.slice A n c, .slice B m d] 22)) rfl
  (by have := Rd.new w 22 1 2 [.slice A n c, .slice B m d] rfl; simpa using this)
  (by
    intro i l u hl hu
    match i with
    | 0 => simp at hl hu; subst hl hu; exact ⟨A, n, c, rfl, (ha.below hbl).rd⟩
    | 1 => simp at hl hu; subst hl hu; exact ⟨B, m, d, rfl, (hb.below hbl).rd⟩
    | i + 2 => simp at hl)
  (by rw [hf, List.length_append]; have := ha.right.size; have := hb.right.size; omega) (by decide)
 rw [hf] at h
 refine h.mono ?_
 rintro e w' ⟨⟨v, rfl, ho⟩, hb1⟩
 obtain ⟨A', c', rfl, _⟩ := own_form ho
 exact ⟨A', c', _, rfl, by rw [List.length_append]; have := ha.right.size; have := hb.right.size; omega, Rd.of_own ho, hbl.trans (hb1.mono (by simp))⟩
set_option maxHeartbeats 1600000 in
theorem sets_union (A B : Option Addr) (n c m d : Nat) (a b : Spans) (w : World) (ha : SetArg w A n c a) (hb : SetArg w B m d b) :
 Calls Tryz.prog 17 #[.slice A n c, .slice B m d] w (SetTuple w (opP 124 a b)) := by
 have HA := Lib.hid ha
 have HB := Lib.hid hb
 clear ha hb
 go_enter Tryz.func17, Tryz.ntmps17
 go_wp2_with fail
 refine (right_two_call HA.out HB.out).mono ?_
 rintro e w1 ⟨rfl, hb1⟩
 have HA1 := Lib.hid (HA.out.below hb1)
 have HB1 := Lib.hid (HB.out.below hb1)
 have HBL := Lib.hid hb1
 clear hb1
 go_wp2_with fail
 refine (concat_two_call HA1.out HB1.out).mono ?_
 rintro e w2 ⟨A2, c2, k, rfl, hlen, hrd, hb2⟩
 have HBL2 := Lib.hid (HBL.out.trans (hb2.mono HBL.out.size))
 have HO := Lib.hid (sets_of A2 k c2 (a ++ b) w2 hlen (fun x hx => by
  rcases List.mem_append.1 hx with h | h
  ·exact HA.out.right.each x h
  ·exact HB.out.right.each x h) hrd)
 clear hrd hb2
 go_wp2_with fail
 refine HO.out.mono ?_
 rintro e w3 ⟨l', hp, hpw, A3, n3, c3, rfl, h1, h2, h3, h4⟩
 rw [← union_is HA.out.right HB.out.right hp hpw] at h1 ⊢
 have H1 := Lib.hid (h1.lift (X' := fun b => w.heap.size ≤ b) (fun _ h => Nat.le_trans HBL2.out.size h))
 have H4 := Lib.hid (HBL2.out.trans (h4.mono HBL2.out.size))
 clear h1 h4 hp hpw HO
 go_wp2_with fail
 go_ret2
 exact ⟨A3, n3, c3, rfl, H1.out, h2, h3, H4.out⟩
set_option maxHeartbeats 1600000 in
theorem sets_meet_top (A B : Option Addr) (n c m d : Nat) (a b : Spans) (w : World) (ha : SetArg w A n c a) (hb : SetArg w B m d b) :
 Calls Tryz.prog 18 #[.slice A n c, .slice B m d] w (SetTuple w (opP 38 a b)) := by
 have HA := Lib.hid ha
 have HB := Lib.hid hb
 clear ha hb
 rw [meet_is HA.out.right HB.out.right]
 go_enter Tryz.func18, Tryz.ntmps18
 go_wp2_with fail
 refine (right_two_call HA.out HB.out).mono ?_
 rintro e w1 ⟨rfl, hb1⟩
 have HM := Lib.hid (sets_meet A B n m c d a b w1 (by have := HA.out.le; have := HB.out.le; omega) HA.out.cap HB.out.cap HA.out.right.canon HB.out.right.canon (HA.out.below hb1).rd (HB.out.below hb1).rd)
 have HBL := Lib.hid hb1
 clear hb1
 go_wp2_with fail
 refine HM.out.mono ?_
 rintro e w3 ⟨A3, n3, c3, rfl, hr3, hn3, hc3, hb3⟩
 have HB3 := Lib.hid (HBL.out.trans (hb3.mono HBL.out.size))
 have HT := Lib.hid (fun (e : Ending) (w' : World) h => show SetTuple w (fitP (meetP a b)) e w' from SetTuple.of_fit (hr3.lift (X' := fun b => w.heap.size ≤ b) (fun _ h => Nat.le_trans HBL.out.size h)) hc3 HB3.out h)
 clear hr3 hb3
 go_wp2_with fail
 refine (sets_fit A3 n3 c3 w3).mono ?_
 rintro e w4 he
 obtain ⟨A5, n5, c5, rfl, h5⟩ := HT.out e w4 he
 have H5 := Lib.hid h5
 clear h5 he HT
 go_wp2_with fail
 go_ret2
 exact ⟨A5, n5, c5, rfl, H5.out⟩
set_option maxHeartbeats 1600000 in
theorem sets_minus (A B : Option Addr) (n c m d : Nat) (a b : Spans) (w : World) (ha : SetArg w A n c a) (hb : SetArg w B m d b) :
 Calls Tryz.prog 19 #[.slice A n c, .slice B m d] w (SetTuple w (opP 45 a b)) := by
 have HA := Lib.hid ha
 have HB := Lib.hid hb
 clear ha hb
 rw [minus_is HA.out.right HB.out.right]
 go_enter Tryz.func19, Tryz.ntmps19
 go_wp2_with fail
 refine (right_two_call HA.out HB.out).mono ?_
 rintro e w1 ⟨rfl, hb1⟩
 have HA1 := Lib.hid (HA.out.below hb1)
 have HN := Lib.hid (sets_not B m d b w1 HB.out.le HB.out.right (HB.out.below hb1).rd)
 have HBL := Lib.hid hb1
 clear hb1
 go_wp2_with fail
 refine HN.out.mono ?_
 rintro e w2 ⟨A2, n2, c2, rfl, hr2, hn2, hc2, hb2⟩
 have HB2 := Lib.hid (HBL.out.trans (hb2.mono HBL.out.size))
 have HM := Lib.hid (sets_meet A A2 n n2 c c2 a (notP b) w2 (by have := HA.out.le; omega) HA.out.cap hc2 HA.out.right.canon (notP_is HB.out.right.canon).1 (HA1.out.below hb2).rd hr2.of)
 clear hr2 hb2
 go_wp2_with fail
 refine HM.out.mono ?_
 rintro e w3 ⟨A3, n3, c3, rfl, hr3, hn3, hc3, hb3⟩
 have HB3 := Lib.hid (HB2.out.trans (hb3.mono HB2.out.size))
 have HT := Lib.hid (fun (e : Ending) (w' : World) h => show SetTuple w (fitP (meetP a (notP b))) e w' from SetTuple.of_fit (hr3.lift (X' := fun b => w.heap.size ≤ b) (fun _ h => Nat.le_trans HB2.out.size h)) hc3 HB3.out h)
 clear hr3 hb3
 go_wp2_with fail
 refine (sets_fit A3 n3 c3 w3).mono ?_
 rintro e w4 he
 obtain ⟨A5, n5, c5, rfl, h5⟩ := HT.out e w4 he
 have H5 := Lib.hid h5
 clear h5 he HT
 go_wp2_with fail
 go_ret2
 exact ⟨A5, n5, c5, rfl, H5.out⟩
set_option maxHeartbeats 1600000 in
theorem sets_not_top (A : Option Addr) (n c : Nat) (a b : Spans) (w : World) (ha : SetArg w A n c a) :
 Calls Tryz.prog 20 #[.slice A n c] w (SetTuple w (opP 94 a b)) := by
 have HA := Lib.hid ha
 clear ha
 rw [compl_is HA.out.right b]
 go_enter Tryz.func20, Tryz.ntmps20
 go_wp2_with fail
 refine (right_one_call HA.out).mono ?_
 rintro e w1 ⟨rfl, hb1⟩
 have HN := Lib.hid (sets_not A n c a w1 HA.out.le HA.out.right (HA.out.below hb1).rd)
 have HBL := Lib.hid hb1
 clear hb1
 go_wp2_with fail
 refine HN.out.mono ?_
 rintro e w3 ⟨A3, n3, c3, rfl, hr3, hn3, hc3, hb3⟩
 have HB3 := Lib.hid (HBL.out.trans (hb3.mono HBL.out.size))
 have HT := Lib.hid (fun (e : Ending) (w' : World) h => show SetTuple w (fitP (notP a)) e w' from SetTuple.of_fit (hr3.lift (X' := fun b => w.heap.size ≤ b) (fun _ h => Nat.le_trans HBL.out.size h)) hc3 HB3.out h)
 clear hr3 hb3
 go_wp2_with fail
 refine (sets_fit A3 n3 c3 w3).mono ?_
 rintro e w4 he
 obtain ⟨A5, n5, c5, rfl, h5⟩ := HT.out e w4 he
 have H5 := Lib.hid h5
 clear h5 he HT
 go_wp2_with fail
 go_ret2
 exact ⟨A5, n5, c5, rfl, H5.out⟩
end Go.Proofs.YthnhbcohfoodlaaGreatDoor

namespace Go.Proofs.YthnhbcohfoodlaaGreatDoor
open Go.RowKit
theorem cur_peek2 (w : World) (C : Nat) (A : Option Addr) (n c : Nat) (L : List Int) (i : Nat) (h : CurAt w C A n c L i) :
 Calls Tryz.prog 57 #[.pointer (some ⟨C, 0, none⟩)] w fun e w' => e = .returned (.int .i32 (pk L i)) ∧ CurAt w' C A n c L i ∧ But w C w' :=
 (cur_peek w C A n c L i h).mono fun e w' ⟨he, m, hw⟩ => ⟨he, by rw [hw]; exact h.drewN m, by rw [hw]; exact But.drewN w C m⟩
theorem cur_look2 (w : World) (C : Nat) (A : Option Addr) (n c : Nat) (L : List Int) (i k : Nat) (h : CurAt w C A n c L i) (hk : k ≤ 1000) :
 Calls Tryz.prog 77 #[.pointer (some ⟨C, 0, none⟩), .int .i64 k] w fun e w' => e = .returned (.int .i32 (pk L (i + k))) ∧ CurAt w' C A n c L i ∧ But w C w' :=
 (cur_look w C A n c L i k h hk).mono fun e w' ⟨he, m, hw⟩ => ⟨he, by rw [hw]; exact h.drewN m, by rw [hw]; exact But.drewN w C m⟩
def SetPost (w : World) (C : Nat) (A : Option Addr) (n c : Nat) (L : List Int) (r : Rdg Spans) (e : Ending) (w' : World) : Prop :=
 match r with
 | .ok (s, j) => (∃ B m d, e = .returned (.slice B m d) ∧ RdX w' (fun b => w.heap.size ≤ b) 2 B m (spanCells s) ∧ m ≤ d) ∧ CurAt w' C A n c L j ∧ But w C w'
 | .error (x, p) => e = thrown x p ∧ But w C w'
def spanS (L : List Int) (i : Nat) : Rdg Spans := match spanP L i with
 | .error e => .error e
 | .ok (x, j) => .ok ([x], j)
theorem spanS_e1 {L : List Int} {i : Nat} {e : Int × Nat} (h : charP L i = .error e) : spanS L i = .error e := by unfold spanS spanP; rw [h]
theorem spanS_one {L : List Int} {i j : Nat} {x : Int} (h : charP L i = .ok (x, j)) (h2 : ¬ (pk L j = 45 ∧ pk L (j + 1) ≠ 91)) : spanS L i = .ok ([(x, x)], j) := by unfold spanS spanP; rw [h]; simp only; rw [if_neg h2]
theorem spanS_e2 {L : List Int} {i j : Nat} {x : Int} {e : Int × Nat} (h : charP L i = .ok (x, j)) (h2 : pk L j = 45 ∧ pk L (j + 1) ≠ 91) (h3 : charP L (j + 1) = .error e) : spanS L i = .error e := by
 unfold spanS spanP; rw [h]; simp only; rw [if_pos h2, h3]
theorem spanS_e3 {L : List Int} {i j k : Nat} {x y : Int} (h : charP L i = .ok (x, j)) (h2 : pk L j = 45 ∧ pk L (j + 1) ≠ 91) (h3 : charP L (j + 1) = .ok (y, k)) (h4 : y < x) : spanS L i = .error (3, j + 1) := by
 unfold spanS spanP; rw [h]; simp only; rw [if_pos h2, h3]; simp only; rw [if_pos h4]
theorem spanS_two {L : List Int} {i j k : Nat} {x y : Int} (h : charP L i = .ok (x, j)) (h2 : pk L j = 45 ∧ pk L (j + 1) ≠ 91) (h3 : charP L (j + 1) = .ok (y, k)) (h4 : ¬ y < x) : spanS L i = .ok ([(x, y)], k) := by
 unfold spanS spanP; rw [h]; simp only; rw [if_pos h2, h3]; simp only; rw [if_neg h4]
theorem span_made {w W : World} {C : Nat} {A : Option Addr} {n c : Nat} {L : List Int} {j : Nat} (x y : Int) (h : CurAt W C A n c L j) (hb : But w C W) :
 SetPost w C A n c L (.ok ([(x, y)], j)) (.returned (.slice (some ⟨W.heap.size, 0, none⟩) 1 1)) (W.alloc (.cells #[.int .i32 x, .int .i32 y] 74)) :=
 ⟨⟨_, 1, 1, rfl, RdX.new 74 [.int .i32 x, .int .i32 y] rfl hb.1, Nat.le_refl _⟩, h.below ((Below.refl _ _).alloc (Nat.le_refl _) _), hb.trans (But.below C ((Below.refl _ _).alloc (Nat.le_refl _) _))⟩
set_option maxHeartbeats 3200000 in
set_option maxRecDepth 100000 in
theorem cur_span (w : World) (C : Nat) (A : Option Addr) (n c : Nat) (L : List Int) (i : Nat) (h : CurAt w C A n c L i) (hL : ValidL L) :
 Calls Tryz.prog 79 #[.pointer (some ⟨C, 0, none⟩)] w (SetPost w C A n c L (spanS L i)) := by
 have hs := h.size
 have hlen := h.len
 have HC := Lib.hid h
 have HPK := Lib.hid (fun (W : World) (k : Nat) (h : CurAt W C A n c L k) => cur_peek2 W C A n c L k h)
 have HLK := Lib.hid (fun (W : World) (k : Nat) (h : CurAt W C A n c L k) => cur_look2 W C A n c L k 1 h (by decide))
 have HCH := Lib.hid (fun (W : World) (k : Nat) (h : CurAt W C A n c L k) => cur_char W C A n c L k h hL)
 have HOK := Lib.hid hL.ok
 clear h hL
 obtain ⟨R, hR⟩ : ∃ R, spanS L i = R := ⟨_, rfl⟩
 rw [hR]
 have HR0 := Lib.hid hR
 clear hR
 have H1 := Lib.hid (HCH.out w i HC.out)
 cases h1 : charP L i with
 | error e0 =>
   obtain ⟨x, p⟩ := e0
   rw [h1] at H1
   have HR := Lib.hid (HR0.out.symm.trans (spanS_e1 h1))
   clear h1
   go_enter Tryz.func79, Tryz.ntmps79
   go_wp2_with fail
   refine H1.out.mono ?_
   rintro e w5 ⟨he, hb⟩
   unfold thrown at he
   subst he
   have HB5 := Lib.hid hb
   clear hb
   go_wp2_with fail
   rw [HR.out]
   exact ⟨rfl, rfl, HB5.out⟩
 | ok q =>
   obtain ⟨x, j⟩ := q
   rw [h1] at H1
   have HC1 := Lib.hid h1
   obtain ⟨_, hx0, hx1⟩ := charP_ok HOK.out h1
   clear h1
   by_cases hd : pk L j = 45
   ·have hjlt : j < n := by rw [← hlen]; exact pk_lt (by omega)
    have HPK1 := Lib.hid (fun (W : World) (h : CurAt W C A n c L j) => show Calls Tryz.prog 57 #[.pointer (some ⟨C, 0, none⟩)] W fun e w' => e = .returned (.int .i32 45) ∧ CurAt w' C A n c L j ∧ But W C w' by have := HPK.out W j h; rwa [hd] at this)
    by_cases hb : pk L (j + 1) = 91
    ·have HR := Lib.hid (HR0.out.symm.trans (spanS_one HC1.out (fun h => h.2 hb)))
     have HLK1 := Lib.hid (fun (W : World) (h : CurAt W C A n c L j) => show Calls Tryz.prog 77 #[.pointer (some ⟨C, 0, none⟩), .int .i64 1] W fun e w' => e = .returned (.int .i32 91) ∧ CurAt w' C A n c L j ∧ But W C w' by have := HLK.out W j h; rwa [hb] at this)
     clear hd hb
     go_enter Tryz.func79, Tryz.ntmps79
     go_wp2_with fail
     refine H1.out.mono ?_
     rintro e w5 ⟨rfl, hc, hb⟩
     have HC5 := Lib.hid hc
     have HB5 := Lib.hid hb
     clear hb hc
     go_wp2_with fail
     refine (HPK1.out _ HC5.out).mono ?_
     rintro e w6 ⟨rfl, hc, hb⟩
     have HC6 := Lib.hid hc
     have HB6 := Lib.hid (HB5.out.trans hb)
     clear hb hc
     go_wp2_with fail
     refine (HLK1.out _ HC6.out).mono ?_
     rintro e w7 ⟨rfl, hc, hb⟩
     have HC7 := Lib.hid hc
     have HB7 := Lib.hid (HB6.out.trans hb)
     clear hb hc
     go_wp2_with fail
     go_ret
     rw [HR.out]
     exact span_made x x HC7.out HB7.out
    ·have HLK1 := Lib.hid (fun (W : World) (h : CurAt W C A n c L j) => HLK.out W j h)
     have hq : (pk L (j + 1) != 91) = true := by simp; exact hb
     have HCN := Lib.hid (And.intro hd hb)
     generalize pk L (j + 1) = r2 at hq HLK1
     have H2 := Lib.hid (fun (W : World) (h : CurAt W C A n c L (j + 1)) => HCH.out W (j + 1) h)
     have hcast : ((j + 1 : Nat) : Int) = (j : Int) + 1 := by omega
     have hw1 : IntKind.i64.wrap ((j : Int) + 1) = (j : Int) + 1 := wrap_small _ (by omega) (by omega)
     clear hd hb
     cases h2 : charP L (j + 1) with
     | error e0 =>
       obtain ⟨x2, p2⟩ := e0
       rw [h2] at H2
       have HR := Lib.hid (HR0.out.symm.trans (spanS_e2 HC1.out HCN.out h2))
       clear h2
       go_enter Tryz.func79, Tryz.ntmps79
       go_wp2_with fail
       refine H1.out.mono ?_
       rintro e w5 ⟨rfl, hc, hb⟩
       have HC5 := Lib.hid hc
       have HB5 := Lib.hid hb
       clear hb hc
       go_wp2_with fail
       refine (HPK1.out _ HC5.out).mono ?_
       rintro e w6 ⟨rfl, hc, hb⟩
       have HC6 := Lib.hid hc
       have HB6 := Lib.hid (HB5.out.trans hb)
       clear hb hc
       go_wp2_with fail
       refine (HLK1.out _ HC6.out).mono ?_
       rintro e w7 ⟨rfl, hc, hb⟩
       have HC7 := Lib.hid hc
       have HB7 := Lib.hid (HB6.out.trans hb)
       clear hb hc
       obtain ⟨d1, d2, d3, d4⟩ := HC7.out.step hjlt
       have HC8 := Lib.hid d3
       have HB8 := Lib.hid (HB7.out.trans d4)
       clear d3 d4
       go_wp2_with fail
       refine (H2.out _ HC8.out).mono ?_
       rintro e w9 ⟨he, hb⟩
       unfold thrown at he
       subst he
       have HB9 := Lib.hid (HB8.out.trans hb)
       clear hb
       go_wp2_with fail
       rw [HR.out]
       exact ⟨rfl, rfl, HB9.out⟩
     | ok q =>
       obtain ⟨y, k⟩ := q
       rw [h2] at H2
       have HC2 := Lib.hid h2
       obtain ⟨_, hy0, hy1⟩ := charP_ok HOK.out h2
       clear h2
       go_enter Tryz.func79, Tryz.ntmps79
       go_wp2_with fail
       refine H1.out.mono ?_
       rintro e w5 ⟨rfl, hc, hb⟩
       have HC5 := Lib.hid hc
       have HB5 := Lib.hid hb
       clear hb hc
       go_wp2_with fail
       refine (HPK1.out _ HC5.out).mono ?_
       rintro e w6 ⟨rfl, hc, hb⟩
       have HC6 := Lib.hid hc
       have HB6 := Lib.hid (HB5.out.trans hb)
       clear hb hc
       go_wp2_with fail
       refine (HLK1.out _ HC6.out).mono ?_
       rintro e w7 ⟨rfl, hc, hb⟩
       have HC7 := Lib.hid hc
       have HB7 := Lib.hid (HB6.out.trans hb)
       clear hb hc
       obtain ⟨d1, d2, d3, d4⟩ := HC7.out.step hjlt
       have HC8 := Lib.hid d3
       have HB8 := Lib.hid (HB7.out.trans d4)
       clear d3 d4
       go_wp2_with fail
       refine (H2.out _ HC8.out).mono ?_
       rintro e w9 ⟨rfl, hc, hb⟩
       have HC9 := Lib.hid hc
       have HB9 := Lib.hid (HB8.out.trans hb)
       clear hb hc
       by_cases hlt : y < x
       ·have HR := Lib.hid (HR0.out.symm.trans (spanS_e3 HC1.out HCN.out HC2.out hlt))
        have HF := Lib.hid (fun (W : World) => syn_fail 3 ((j : Int) + 1) W)
        go_wp2_with fail
        refine (HF.out _).mono ?_
        rintro e w10 ⟨rfl, rfl⟩
        go_wp2_with fail
        rw [HR.out]
        exact ⟨rfl, by rw [thrown, hcast], HB9.out⟩
       ·have HR := Lib.hid (HR0.out.symm.trans (spanS_two HC1.out HCN.out HC2.out hlt))
        go_wp2_with fail
        go_ret
        rw [HR.out]
        exact span_made x y HC9.out HB9.out
   ·have HR := Lib.hid (HR0.out.symm.trans (spanS_one HC1.out (fun h => hd h.1)))
    have hq : (pk L j == 45) = false := by simp; exact hd
    go_enter Tryz.func79, Tryz.ntmps79
    go_wp2_with fail
    refine H1.out.mono ?_
    rintro e w5 ⟨rfl, hc, hb⟩
    have HC5 := Lib.hid hc
    have HB5 := Lib.hid hb
    clear hb hc
    go_wp2_with fail
    refine (HPK.out _ _ HC5.out).mono ?_
    rintro e w6 ⟨rfl, hc, hb⟩
    have HC6 := Lib.hid hc
    have HB6 := Lib.hid (HB5.out.trans hb)
    clear hb hc
    go_wp2_with fail
    go_ret
    rw [HR.out]
    exact span_made x x HC6.out HB6.out
end Go.Proofs.YthnhbcohfoodlaaGreatDoor
