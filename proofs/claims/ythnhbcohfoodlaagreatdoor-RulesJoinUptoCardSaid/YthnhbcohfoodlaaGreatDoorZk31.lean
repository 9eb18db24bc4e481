/- SortSpan -/
import Derived.Test.YthnhbcohfoodlaaGreatDoorShelf2
import Derived.Test.YthnhbcohfoodlaaGreatDoorShelf
import Derived.Test.YthnhbcohfoodlaaGreatDoorZk24
import Derived.Test.YthnhbcohfoodlaaGreatDoorZk28
namespace Go.Proofs.YthnhbcohfoodlaaGreatDoor
open Go.RowKit
def spanEnc (x : Int × Int) : List Value := [.int .i32 x.1, .int .i32 x.2]
def spanCmp (x y : Int × Int) : Int := Lib.compareInt x.1 y.1
theorem ltSpan (x y : Int × Int) : ltOf spanCmp x y = decide (x.1 < y.1) := by
  unfold ltOf spanCmp Lib.compareInt
  by_cases h1 : x.1 < y.1
  · simp [h1]
  · by_cases h2 : y.1 < x.1 <;> simp [h1, h2]
theorem swoSpan : Sort.SWO (ltOf spanCmp) where
  irrefl x := by rw [ltSpan]; simp
  trans x y z h1 h2 := by rw [ltSpan] at *; simp at *; omega
  ntrans x y z h1 h2 := by rw [ltSpan] at *; simp at *; omega
theorem is_nan (x : Int) (w : World) : Calls Tryz.prog 145 #[.int .i32 x] w fun e w' => e = .returned (.bool false) ∧ w' = w := by
  have h : (x != x) = false := by simp
  go_enter Tryz.func145, Tryz.ntmps145
  go_wp2_with fail
  go_ret
  exact ⟨rfl, rfl⟩
theorem cmp_rune (x y : Int) (w : World) : Calls Tryz.prog 92 #[.int .i32 x, .int .i32 y] w fun e w' => e = .returned (.int .i64 (Lib.compareInt x y)) ∧ w' = w := by
  unfold Lib.compareInt
  by_cases h1 : x < y
  · rw [if_pos h1]
    go_enter Tryz.func92, Tryz.ntmps92
    go_wp2_with (go_at_call 145; refine (is_nan _ _).mono ?_; rintro e w' ⟨rfl, rfl⟩)
    go_ret
    exact ⟨rfl, rfl⟩
  · rw [if_neg h1]
    by_cases h2 : x > y
    · rw [if_pos h2]
      go_enter Tryz.func92, Tryz.ntmps92
      go_wp2_with (go_at_call 145; refine (is_nan _ _).mono ?_; rintro e w' ⟨rfl, rfl⟩)
      go_ret
      exact ⟨rfl, rfl⟩
    · rw [if_neg h2]
      go_enter Tryz.func92, Tryz.ntmps92
      go_wp2_with (go_at_call 145; refine (is_nan _ _).mono ?_; rintro e w' ⟨rfl, rfl⟩)
      go_ret
      exact ⟨rfl, rfl⟩
set_option maxHeartbeats 1000000 in
theorem of_cmp (x y : Int × Int) (W : World) : Calls Tryz.prog 91 #[.agg #[.int .i32 x.1, .int .i32 x.2], .agg #[.int .i32 y.1, .int .i32 y.2]] W fun e w' => e = .returned (.int .i64 (spanCmp x y)) ∧ ∃ q os', w' = Sort.grow (W.drewN q) os' := by
  have hcon := fun W' => cmp_rune x.1 y.1 W'
  unfold spanCmp
  generalize Lib.compareInt x.1 y.1 = r at hcon ⊢
  go_enter Tryz.func91, Tryz.ntmps91
  go_wp2_with (go_at_call 92; refine (hcon _).mono ?_; rintro e w' ⟨rfl, rfl⟩)
  go_ret
  exact ⟨rfl, 0, _, by rw [Sort.alloc_eq_grow, Sort.alloc_eq_grow, Sort.grow_grow]; rfl⟩
theorem of_lays (blk off size : Nat) (w : World) : CmpLays Tryz.prog 91 #[] spanEnc 2 spanCmp blk off size w := fun _ _ _ _ x y => of_cmp x y _
theorem spanCells_flat (l : Spans) (t : Nat) (h : t < l.length * 2) : (spanCells l)[t]? = some ((spanEnc (l.toArray[t / 2]!))[t % 2]!) := by
  have hk : t / 2 < l.length := by omega
  obtain ⟨⟨x, y⟩, hx⟩ : ∃ z, l[t / 2]? = some z := ⟨_, List.getElem?_eq_getElem hk⟩
  obtain ⟨c0, c1⟩ := spanCells_at l (t / 2) x y hx
  have hg : l.toArray[t / 2]! = (x, y) := by
    rw [getElem!_pos l.toArray (t / 2) (by simpa using hk)]
    simp only [List.getElem_toArray]
    exact (List.getElem?_eq_some_iff.1 hx).2
  rw [hg]
  rcases Nat.mod_two_eq_zero_or_one t with h0 | h0
  · rw [h0]
    have e : t = t / 2 * 2 := by omega
    rw [← e] at c0
    exact c0
  · rw [h0]
    have e : t = t / 2 * 2 + 1 := by omega
    rw [← e] at c1
    exact c1
theorem sorted_spans {l : Spans} {n : Nat} {d' : Array (Int × Int)} (hn : l.length = n) (hp : Sort.PermIn 0 n l.toArray d') (hs : Sort.SortedIn (ltOf spanCmp) 0 n d') :
    d'.size = n ∧ l.Perm d'.toList ∧ d'.toList.Pairwise (fun a b => a.1 ≤ b.1) := by
  obtain ⟨h1, _, h3⟩ := hp
  have hsz : d'.size = n := by rw [h1]; simpa using hn
  have e1 : (d'.extract 0 n).toList = d'.toList := by rw [← hsz]; simp
  have e2 : (l.toArray.extract 0 n).toList = l := by rw [← hn]; simp
  rw [e1, e2] at h3
  refine ⟨hsz, h3.symm, List.pairwise_iff_getElem.2 fun i j hi hj hij => ?_⟩
  have hi' : i < d'.size := by simpa using hi
  have hj' : j < d'.size := by simpa using hj
  have := hs i j (Nat.zero_le _) hij (by omega)
  rw [ltSpan, getElem!_pos d' i hi', getElem!_pos d' j hj', decide_eq_false_iff_not] at this
  simp only [Array.getElem_toList]
  omega
theorem sortWorld_but (w : World) (g m : Nat) (dk : Array (Int × Int)) (os : Array Obj) : But w g (sortWorldK spanEnc 2 w g 0 m dk os) := by
  unfold sortWorldK Sort.putRowK Sort.putRow Sort.mapBlock Sort.grow Sort.ahead
  refine ⟨by simp, rfl, rfl, rfl, fun k hk hne => ?_⟩
  simp only
  rw [Array.getElem?_append_left (by simpa using hk), Array.getElem?_modify, if_neg (Ne.symm hne)]
set_option maxHeartbeats 1000000 in
theorem sort_spans (g n c base : Nat) (l : Spans) (w : World) (hn : n ≤ 100000) (hl : l.length = n) (ho : w.ownsRow base 74 2 (.slice (some ⟨g, 0, none⟩) n c) n (spanCells l)) :
    Calls Tryz.prog 90 #[.slice (some ⟨g, 0, none⟩) n c, .func (.func 91) #[] #[]] w fun e w' => e = .returned (.tuple #[]) ∧ But w g w' ∧
      ∃ l', l.Perm l' ∧ l'.Pairwise (fun a b => a.1 ≤ b.1) ∧ RdS w' w'.heap.size (some ⟨g, 0, none⟩) n l' := by
  have hg := (own_lt ho rfl).2
  have hH : Sort.HoldsK spanEnc 2 w g 0 l.toArray := by
    intro j hj
    rw [Sort.size_flatK] at hj
    have hj2 : j < l.length * 2 := by simpa using hj
    rw [Sort.get_flatK _ _ _ _ (by simpa using hj2), Nat.zero_add]
    refine ⟨?_, ho.frozenAt _⟩
    rw [ho.cellAt _ (by omega)]
    exact spanCells_flat l j hj2
  have hsz : l.toArray.size = n := by simpa using hl
  have eg : ∀ args w, (callFunc 91 args).run Tryz.prog w = .ok (.enter 91 args) w := enters_of Tryz.func91 (by kernel_rfl) rfl
  have hcon := AnyQ.slices_SortFunc Tryz.sortSpan 2 Tryz.isAgg74 Tryz.sizeOf74 spanEnc (fun _ => rfl) (fun x v hv => by simp [spanEnc] at hv; rcases hv with rfl | rfl <;> rfl) spanCmp swoSpan 91 #[] g 0 c l.toArray w eg (of_lays g 0 _ w) hH hg (by rw [hsz]; omega)
  rw [hsz] at hcon
  refine Calls.mono hcon ?_
  rintro e w' ⟨rfl, d', m, os, hp, hs, rfl⟩
  obtain ⟨h1, h2, h3⟩ := sorted_spans hl hp hs
  refine ⟨rfl, sortWorld_but _ _ _ _ _, d'.toList, h2, h3, ⟨by rw [spanCells_length]; simp [h1], fun h0 => ⟨g, 0, rfl, Nat.lt_of_lt_of_le hg (sortWorld_but w g m d' os).1, fun j u hu => ?_⟩⟩⟩
  have hj : j < d'.toList.length * 2 := by have := (List.getElem?_eq_some_iff.1 hu).1; rwa [spanCells_length] at this
  rw [spanCells_flat _ j hj] at hu
  have hK := holdsK_sortWorldK_c spanEnc 2 w g 0 l.toArray d' m os hH hg (by rw [h1, hsz])
  have := (hK j (by rw [Sort.size_flatK]; simpa using hj)).1
  rw [Sort.get_flatK _ _ _ _ (by simpa using hj)] at this
  rw [this]
  simpa using hu
set_option maxHeartbeats 1000000 in
theorem sort_nil (w : World) :
    Calls Tryz.prog 90 #[.slice none 0 0, .func (.func 91) #[] #[]] w fun e w' => e = .returned (.tuple #[]) ∧ w' = w := by
  have H1 := Lib.hid (show Calls Tryz.prog 168 #[.slice none 0 0, .int .i64 0, .int .i64 0, .func (.func 91) #[] #[]] w fun e w' => e = .returned (.tuple #[]) ∧ w' = w by
    go_enter Tryz.func168, Tryz.ntmps168
    go_wp2_with fail
    go_loopw [8] (fun i wr => i = .int .i64 1 ∧ wr = w) (fun _ _ => 0)
    case atStart => exact ⟨rfl, rfl⟩
    case round =>
      obtain ⟨rfl, rfl⟩ := hrel
      go_wp2_with fail
      go_end0
      exact ⟨rfl, rfl⟩)
  have H2 := Lib.hid (fun (x : Int) => show Calls Tryz.prog 143 #[.slice none 0 0, .int .i64 0, .int .i64 0, .int .i64 x, .func (.func 91) #[] #[]] w fun e w' => e = .returned (.tuple #[]) ∧ w' = w by
    go_enter Tryz.func143, Tryz.ntmps143
    go_wp2_with fail
    go_loopw [1, 2, 3] (fun a b c wr => a = .int .i64 0 ∧ b = .int .i64 0 ∧ c = .int .i64 x ∧ wr = w) (fun _ _ _ _ => 0)
    case atStart => exact ⟨rfl, rfl, rfl, rfl⟩
    case round =>
      obtain ⟨rfl, rfl, rfl, rfl⟩ := hrel
      go_wp2_with fail
      refine H1.out.mono ?_
      rintro e w1 ⟨rfl, rfl⟩
      go_wp2_with fail
      (try simp only [Exit.inBlock, Exit.then])
      refine bodyPost_ret (results_none rfl _ _ _) rfl ?_
      exact ⟨rfl, rfl⟩)
  have H3 := Lib.hid (show Calls Tryz.prog 144 #[.int .u64 0] w fun e w' => e = .returned (.int .i64 (Lib.bitLen 0 : Nat)) ∧ w' = w from Tryz.bits_Len 0 w (by decide) (by decide))
  go_enter Tryz.func90, Tryz.ntmps90
  go_wp2_with (first | (go_at_call 144; refine H3.out.mono ?_; rintro e w1 ⟨rfl, rfl⟩) | (go_at_call 143; refine (H2.out _).mono ?_; rintro e w1 ⟨rfl, rfl⟩))
  go_end0
  exact ⟨rfl, rfl⟩
end Go.Proofs.YthnhbcohfoodlaaGreatDoor
