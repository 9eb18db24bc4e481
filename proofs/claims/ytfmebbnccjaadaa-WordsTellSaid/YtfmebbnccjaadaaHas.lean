/- sort.Search with any closure that tells p and lays only new blocks; sets.Has and scriptref2.Has: of a right set both tell hasP. -/
import Derived.Test.YtfmebbnccjaadaaRulesBoth
import Derived.Shelf.Abstract
namespace Go.Proofs.Ytfmebbnccjaadaa
open Go.RowKit

set_option maxRecDepth 100000 in
set_option maxHeartbeats 1600000 in
theorem sort_search (g : Nat) (cb : Array Value) (n : Nat) (p : Nat → Bool) (w : World) (eg : ∀ args w, (callFunc g args).run Try.prog w = .ok (.enter g args) w) (hsz : n < 4611686018427387904)
    (hf : ∀ (w' : World) (i : Nat), Below w.heap.size w w' → i < n → Calls Try.prog g (#[.int .i64 i] ++ cb) w' fun e w2 => e = .returned (.bool (p i)) ∧ Below w'.heap.size w' w2)
    (hmono : ∀ a b, a ≤ b → b < n → p a = true → p b = true) :
    Calls Try.prog 87 #[.int .i64 n, .func (.func g) #[] cb] w fun e w' => ∃ k : Nat, e = .returned (.int .i64 k) ∧ k ≤ n ∧ (∀ t, t < k → p t = false) ∧ (∀ t, k ≤ t → t < n → p t = true) ∧ Below w.heap.size w w' := by
  have HF := Lib.hid hf
  have M := Lib.hid hmono
  clear hf hmono
  go_enter Try.func87, Try.ntmps87
  go_wp2_with fail
  go_loopw [5, 6] (fun s5 s6 wr => ∃ lo hi : Nat, s5 = .int .i64 lo ∧ s6 = .int .i64 hi ∧ lo ≤ hi ∧ hi ≤ n ∧ Below w.heap.size w wr ∧ (∀ t, t < lo → p t = false) ∧ (∀ t, hi ≤ t → t < n → p t = true)) (fun s5 s6 _ => (intOf s6).toNat - (intOf s5).toNat)
  case atStart => exact ⟨0, n, rfl, rfl, Nat.zero_le _, Nat.le_refl _, Below.refl _ _, fun t ht => absurd ht (Nat.not_lt_zero _), fun t h1 h2 => by omega⟩
  case round =>
    obtain ⟨lo, hi, rfl, rfl, hlh, hin, hb, h1, h2⟩ := hrel
    have HL := Lib.hid h1
    have HH := Lib.hid h2
    clear h1 h2
    by_cases hlt : lo < hi
    · have hc := HF.out wr ((lo + hi) / 2) hb (by omega)
      rw [show (((lo + hi) / 2 : Nat) : Int) = ((lo : Int) + (hi : Int)) / 2 by omega] at hc
      cases hp : p ((lo + hi) / 2) <;> rw [hp] at hc
      · have HP := Lib.hid hp
        have HC := Lib.hid hc
        clear hp hc
        go_wp2_with (go_at_fn g; refine HC.out.mono ?_; rintro e w' ⟨rfl, hb'⟩)
        refine ⟨⟨(lo + hi) / 2 + 1, hi, by rw [show ((lo : Int) + (hi : Int)) / 2 + 1 = (((lo + hi) / 2 + 1 : Nat) : Int) by omega], rfl, by omega, hin, hb.trans (hb'.mono hb.size), fun t ht => ?_, HH.out⟩, by simp [intOf]; omega⟩
        cases h : p t with
        | false => rfl
        | true =>
          have := M.out t ((lo + hi) / 2) (by omega) (by omega) h
          rw [HP.out] at this
          cases this
      · have HP := Lib.hid hp
        have HC := Lib.hid hc
        clear hp hc
        go_wp2_with (go_at_fn g; refine HC.out.mono ?_; rintro e w' ⟨rfl, hb'⟩)
        exact ⟨⟨lo, (lo + hi) / 2, rfl, by rw [show ((lo : Int) + (hi : Int)) / 2 = (((lo + hi) / 2 : Nat) : Int) by omega], by omega, by omega, hb.trans (hb'.mono hb.size), HL.out, fun t ht htn => M.out _ t ht htn HP.out⟩, by simp [intOf]; omega⟩
    · obtain rfl : hi = lo := by omega
      go_wp2_with fail
      go_ret
      exact ⟨_, rfl, hin, HL.out, HH.out, hb⟩

/-- A set has a rune. -/
def hasP (s : Spans) (r : Int) : Bool := s.any fun x => decide (x.1 ≤ r) && decide (r ≤ x.2)
theorem wrongGo_spans (s : Spans) : ∀ prev : Option Int, wrongGo prev s = 0 → (∀ h, prev = some h → ∀ x ∈ s, h + 1 < x.1) ∧ (∀ x ∈ s, 0 ≤ x.1 ∧ x.1 ≤ x.2 ∧ x.2 ≤ 1114111) ∧ s.Pairwise (fun a b => a.2 + 1 < b.1) := by
  induction s with
  | nil => intro prev _; exact ⟨by simp, by simp, List.Pairwise.nil⟩
  | cons z s ih =>
    obtain ⟨a, b⟩ := z
    intro prev h
    rw [wrongGo] at h
    by_cases h1 : a < 0 ∨ 1114111 < b ∨ b < a
    · rw [if_pos h1] at h; cases h
    · rw [if_neg h1] at h
      by_cases h2 : touch prev a = true
      · rw [if_pos h2] at h; cases h
      · rw [if_neg h2] at h
        obtain ⟨g1, g2, g3⟩ := ih (some b) h
        refine ⟨fun q hq x hx => ?_, fun x hx => ?_, List.pairwise_cons.2 ⟨fun x hx => g1 b rfl x hx, g3⟩⟩
        · subst hq
          simp only [touch, decide_eq_true_eq] at h2
          rcases List.mem_cons.1 hx with rfl | hx
          · show q + 1 < a; omega
          · have := g1 b rfl x hx; have := (g2 x hx).1; omega
        · rcases List.mem_cons.1 hx with rfl | hx
          · show 0 ≤ a ∧ a ≤ b ∧ b ≤ 1114111; omega
          · exact g2 x hx
/-- A right set: its spans rise. -/
structure RightSet (s : Spans) : Prop where
  size : s.length ≤ 200
  each : ∀ x ∈ s, 0 ≤ x.1 ∧ x.1 ≤ x.2 ∧ x.2 ≤ 1114111
  rise : s.Pairwise (fun a b => a.2 + 1 < b.1)
theorem right_set {s : Spans} (h : wrongP s = 0) : RightSet s := by
  unfold wrongP at h
  by_cases h2 : 200 < s.length
  · rw [if_pos h2] at h; cases h
  · rw [if_neg h2] at h
    obtain ⟨_, g2, g3⟩ := wrongGo_spans s none h
    exact ⟨by omega, g2, g3⟩
theorem RightSet.lt {s : Spans} (h : RightSet s) {i j : Nat} {x y : Int × Int} (hx : s[i]? = some x) (hy : s[j]? = some y) (hij : i < j) : x.2 + 1 < y.1 := by
  obtain ⟨hi, rfl⟩ := List.getElem?_eq_some_iff.1 hx
  obtain ⟨hj, rfl⟩ := List.getElem?_eq_some_iff.1 hy
  exact List.pairwise_iff_getElem.1 h.rise i j hi hj hij
theorem hasP_at {s : Spans} (h : RightSet s) (r : Int) {k : Nat} (h1 : ∀ t x, t < k → s[t]? = some x → x.2 < r) (h2 : ∀ t x, k ≤ t → s[t]? = some x → r ≤ x.2) :
    hasP s r = match s[k]? with | some x => decide (x.1 ≤ r) | none => false := by
  have key : hasP s r = true ↔ ∃ x, s[k]? = some x ∧ x.1 ≤ r := by
    unfold hasP
    rw [List.any_eq_true]
    constructor
    · rintro ⟨x, hx, hp⟩
      simp only [Bool.and_eq_true, decide_eq_true_eq] at hp
      obtain ⟨i, hi⟩ := List.mem_iff_getElem?.1 hx
      have hki : k ≤ i := by
        rcases Nat.lt_or_ge i k with hlt | hge
        · have := h1 i x hlt hi; omega
        · exact hge
      rcases Nat.lt_or_ge k i with hlt | hge
      · obtain ⟨y, hy⟩ : ∃ y, s[k]? = some y := ⟨_, List.getElem?_eq_getElem (by have := (List.getElem?_eq_some_iff.1 hi).1; omega)⟩
        have := h.lt hy hi hlt
        have := h2 k y (Nat.le_refl _) hy
        omega
      · obtain rfl : i = k := by omega
        exact ⟨x, hi, hp.1⟩
    · rintro ⟨x, hx, hr⟩
      exact ⟨x, List.mem_of_getElem? hx, by simp only [Bool.and_eq_true, decide_eq_true_eq]; exact ⟨hr, h2 k x (Nat.le_refl _) hx⟩⟩
  cases hk : s[k]? with
  | none =>
    rw [hk] at key
    simpa using key
  | some x =>
    rw [hk] at key
    rw [Bool.eq_iff_iff, key]
    simp

set_option maxHeartbeats 800000 in
theorem has_closure (ga gr blk off n c i : Nat) (r y : Int) (w : World) (hi : i < n) (ha : w.cell? ⟨ga, 0, none⟩ = some (.slice (some ⟨blk, off, none⟩) n c)) (hr : w.cell? ⟨gr, 0, none⟩ = some (.int .i32 r)) (hc : w.cell? ⟨blk, off + i * 2 + 1, none⟩ = some (.int .i32 y)) :
    Calls Try.prog 88 (#[.int .i64 i] ++ #[.pointer (some ⟨ga, 0, none⟩), .pointer (some ⟨gr, 0, none⟩)]) w fun e w' => e = .returned (.bool (decide (r ≤ y))) ∧ Below w.heap.size w w' := by
  have hiz : (i : Int) < (n : Int) := by omega
  go_enter Try.func88, Try.ntmps88
  go_wp2_with fail
  go_quiet (fail)
  go_wp2_with fail
  go_ret
  exact ⟨rfl, below_drewN (Below.refl _ _) _⟩

theorem enters_has : ∀ args w, (callFunc 88 args).run Try.prog w = .ok (.enter 88 args) w := enters_of Try.func88 (by kernel_rfl) rfl

set_option maxRecDepth 100000 in
set_option maxHeartbeats 1600000 in
theorem sets_has (A : Option Addr) (n c : Nat) (s : Spans) (r : Int) (w : World) (hs : RightSet s) (hl : RdS w w.heap.size A n s) :
    Calls Try.prog 53 #[.slice A n c, .int .i32 r] w fun e w' => e = .returned (.bool (hasP s r)) ∧ Below w.heap.size w w' := by
  have HLEN := Lib.hid hl.len
  have hn2 : n ≤ 200 := by rw [← hl.len]; exact hs.size
  have HL := Lib.hid hl
  have HS := Lib.hid hs
  have HB0 := Lib.hid (((Below.refl w.heap.size w).alloc (Nat.le_refl _) (.cells #[.slice A n c] 48)).alloc (by simp) (.cells #[.int .i32 r] 21))
  have HA := Lib.hid (Blk.alloc (Blk.new w 48 #[.slice A n c]) (.cells #[.int .i32 r] 21))
  have HR := Lib.hid (show Blk ((w.alloc (.cells #[.slice A n c] 48)).alloc (.cells #[.int .i32 r] 21)) (w.heap.size + 1) 21 #[.int .i32 r] by
    have := Blk.new (w.alloc (.cells #[.slice A n c] 48)) 21 #[.int .i32 r]
    simpa using this)
  have HSS := Lib.hid (sort_search 88 #[.pointer (some ⟨w.heap.size, 0, none⟩), .pointer (some ⟨w.heap.size + 1, 0, none⟩)] n (fun i => decide (r ≤ (s[i]?.getD (0, 0)).2))
    ((w.alloc (.cells #[.slice A n c] 48)).alloc (.cells #[.int .i32 r] 21)) enters_has (by omega)
    (fun w' i hb hi => by
      obtain ⟨z, hz⟩ : ∃ z, s[i]? = some z := ⟨_, List.getElem?_eq_getElem (by rw [HLEN.out]; exact hi)⟩
      obtain ⟨b, off, rfl, hbb, _, c1⟩ := HL.out.at (x := z.1) (y := z.2) hz
      rw [hz]
      exact has_closure w.heap.size (w.heap.size + 1) b off n c i r z.2 w' hi ((Blk.below HA.out hb HA.out.lt).cell 0) ((Blk.below HR.out hb HR.out.lt).cell 0)
        (((HB0.out.trans (hb.mono HB0.out.size)).cell (p := ⟨b, off + i * 2 + 1, none⟩) hbb).trans c1))
    (fun a b hab hb h => by
      obtain ⟨x, hx⟩ : ∃ z, s[a]? = some z := ⟨_, List.getElem?_eq_getElem (by rw [HLEN.out]; omega)⟩
      obtain ⟨y, hy⟩ : ∃ z, s[b]? = some z := ⟨_, List.getElem?_eq_getElem (by rw [HLEN.out]; omega)⟩
      simp only [hx, hy, Option.getD_some, decide_eq_true_eq] at h ⊢
      rcases Nat.lt_or_ge a b with hlt | hge
      · have := HS.out.lt hx hy hlt
        have := HS.out.each y (List.mem_of_getElem? hy)
        omega
      · obtain rfl : a = b := by omega
        rw [hx] at hy
        cases hy
        exact h))
  clear hl hs
  go_enter Try.func53, Try.ntmps53
  go_wp2_with fail
  refine HSS.out.mono ?_
  rintro e w1 ⟨k, rfl, hk, h1, h2, hb⟩
  have HH := Lib.hid (hasP_at HS.out r (k := k) (fun t x ht hx => by
      have := h1 t ht
      rw [hx] at this
      simpa using this) (fun t x ht hx => by
      have := h2 t ht (by rw [← HLEN.out]; exact (List.getElem?_eq_some_iff.1 hx).1)
      rw [hx] at this
      simpa using this))
  have a0 : w1.cell? ⟨w.heap.size, 0, none⟩ = some (.slice A n c) := (Blk.below HA.out hb HA.out.lt).cell 0
  have r0 : w1.cell? ⟨w.heap.size + 1, 0, none⟩ = some (.int .i32 r) := (Blk.below HR.out hb HR.out.lt).cell 0
  have HB := Lib.hid (HB0.out.trans (hb.mono HB0.out.size))
  clear h1 h2 hb
  by_cases hlt : k < n
  · obtain ⟨⟨x, y⟩, hx⟩ : ∃ z, s[k]? = some z := ⟨_, List.getElem?_eq_getElem (by rw [HLEN.out]; exact hlt)⟩
    obtain ⟨b, off, rfl, hbb, c0, _⟩ := HL.out.at hx
    have d0 := (HB.out.cell (p := ⟨b, off + k * 2, none⟩) hbb).trans c0
    have HE := Lib.hid (show hasP s r = decide (x ≤ r) by rw [HH.out, hx])
    have hlt2 : decide ((k : Int) < (n : Int)) = true := decide_eq_true (by omega)
    clear hx c0
    go_wp2_with fail
    go_quiet (fail)
    go_wp2_with fail
    go_ret
    rw [HE.out]
    exact ⟨rfl, below_drewN HB.out _⟩
  · have HE := Lib.hid (show hasP s r = false by rw [HH.out, List.getElem?_eq_none (by rw [HLEN.out]; omega)])
    have hlt2 : decide ((k : Int) < (n : Int)) = false := decide_eq_false (by omega)
    go_wp2_with fail
    go_quiet (fail)
    go_wp2_with fail
    go_ret
    rw [HE.out]
    exact ⟨rfl, below_drewN HB.out _⟩

def RhRel (w : World) (s : Spans) (r : Int) (n : Nat) (i : Value) (wr : World) : Prop :=
  ∃ j : Nat, j ≤ n ∧ i = .int .i64 j ∧ hasP s r = hasP (s.drop j) r ∧ Below w.heap.size w wr
set_option maxRecDepth 100000 in
set_option maxHeartbeats 1600000 in
theorem ref2_has (A : Option Addr) (n c : Nat) (s : Spans) (r : Int) (w : World) (hn : n ≤ 9223372036854775807) (hl : RdS w w.heap.size A n s) :
    Calls Try.prog 67 #[.slice A n c, .int .i32 r] w fun e w' => e = .returned (.bool (hasP s r)) ∧ Below w.heap.size w w' := by
  have HLEN := Lib.hid hl.len
  have HL := Lib.hid hl
  clear hl
  go_enter Try.func67, Try.ntmps67
  go_wp2_with fail
  go_loopw [9] (RhRel w s r n) (fun i _ => n - (intOf i).toNat)
  case atStart => exact ⟨0, Nat.zero_le _, rfl, rfl, Below.refl _ _⟩
  case round =>
    obtain ⟨j, hj, rfl, hgo, hb⟩ := hrel
    have hz := hb.size
    by_cases hlt : j < n
    · obtain ⟨⟨x, y⟩, hx⟩ : ∃ z, s[j]? = some z := ⟨_, List.getElem?_eq_getElem (by rw [HLEN.out]; exact hlt)⟩
      obtain ⟨b, off, rfl, hbb, c0, c1⟩ := HL.out.at hx
      have d0 := (hb.cell (p := ⟨b, off + j * 2, none⟩) hbb).trans c0
      have d1 := (hb.cell (p := ⟨b, off + j * 2 + 1, none⟩) hbb).trans c1
      rw [drop_at hx, show hasP ((x, y) :: s.drop (j + 1)) r = ((decide (x ≤ r) && decide (r ≤ y)) || hasP (s.drop (j + 1)) r) from rfl] at hgo
      have HG := Lib.hid hgo
      have HX := Lib.hid hx
      have HB := Lib.hid (hb.alloc hz (.cells #[.int .i32 x, .int .i32 y] 134))
      clear hgo hx c0 c1
      by_cases h1 : x ≤ r
      · by_cases h2 : r ≤ y
        · have HE := Lib.hid (show hasP s r = true by rw [HG.out, decide_eq_true h1, decide_eq_true h2]; rfl)
          go_wp2_with fail
          go_ret
          rw [HE.out]
          exact ⟨rfl, HB.out⟩
        · have HE := Lib.hid (show hasP s r = hasP (s.drop (j + 1)) r by rw [HG.out, decide_eq_false h2, Bool.and_false, Bool.false_or])
          go_wp2_with fail
          exact ⟨⟨j + 1, by omega, by go_num, HE.out, HB.out⟩, by simp [intOf]; omega⟩
      · have HE := Lib.hid (show hasP s r = hasP (s.drop (j + 1)) r by rw [HG.out, decide_eq_false h1, Bool.false_and, Bool.false_or])
        have hd : decide (x ≤ r) = false := decide_eq_false h1
        go_wp2_with fail
        exact ⟨⟨j + 1, by omega, by go_num, HE.out, HB.out⟩, by simp [intOf]; omega⟩
    · obtain rfl : j = n := by omega
      rw [List.drop_of_length_le (by rw [HLEN.out]; omega)] at hgo
      have HG := Lib.hid (hgo.trans (show hasP [] r = false from rfl))
      clear hgo
      go_wp2_with fail
      go_ret
      rw [HG.out]
      exact ⟨rfl, hb⟩

end Go.Proofs.Ytfmebbnccjaadaa
