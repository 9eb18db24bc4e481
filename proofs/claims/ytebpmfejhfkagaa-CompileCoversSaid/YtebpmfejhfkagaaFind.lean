/- The walk of compile.Find: of heads whose ends rise it tells the rules of the first one that does not end ahead of the rune, if that one begins by then. -/
import Derived.Test.YtebpmfejhfkagaaHeadsSame
import Derived.Test.YtebpmfejhfkagaaShelf
namespace Go.Proofs.Ytebpmfejhfkagaa
open Go.RowKit

def Rises (hs : List HeadD) : Prop := ∀ (i j : Nat) (x y : HeadD), i ≤ j → hs[i]? = some x → hs[j]? = some y → x.high ≤ y.high
def foundAt (hs : List HeadD) (r : Int) (k : Nat) : List Int := match hs[k]? with | some x => if r < x.low then [] else x.rules | none => []

/-- slices.Clone at numbers, of any slice of at most 200. -/
theorem clone_ints (A : Option Addr) (n c : Nat) (zs : List Int) (w : World) (hl : RdI w w.heap.size A n zs) (hn : n ≤ 200) :
    Calls Try.prog 22 #[.slice A n c] w fun e w' => (∃ v, e = .returned v ∧ IntsV w' (IntB w.heap.size w') zs v) ∧ Below w.heap.size w w' := by
  have hlen := hl.len
  have hown : ∀ (v : Value) (w' : World), w'.ownsRow w.heap.size 3 1 v n (intCells zs) → IntsV w' (IntB w.heap.size w') zs v := by
    intro v w' ho
    obtain ⟨A', c', rfl, _⟩ := own_form ho
    exact ⟨A', n, c', rfl, RdX.of_own ho (own_intB ho (Nat.le_refl _)), by simp only [maxLen]; omega⟩
  rcases Nat.eq_zero_or_pos n with h0 | h0
  · subst h0
    have hz : zs = [] := List.eq_nil_of_length_eq_zero hlen
    subst hz
    cases A with
    | none =>
      refine (Try.slices_Clone_int_nil 0 c w).mono ?_
      rintro e w' ⟨rfl, rfl⟩
      exact ⟨⟨_, rfl, hown _ _ (World.ownsRow_nil _ _ _ _)⟩, Below.refl _ _⟩
    | some a =>
      refine (Try.slices_Clone_int_zero a c w).mono ?_
      rintro e w' ⟨v', rfl, ho, _, hb⟩
      exact ⟨⟨_, rfl, hown _ _ ho⟩, hb⟩
  · obtain ⟨b, off, rfl, hb, hc⟩ := hl.2 h0
    refine (Try.slices_Clone_int b off n c zs w (by omega) (by omega) (fun j hj => ?_)).mono ?_
    · exact hc j _ (by simp [intCells, List.getD, List.getElem?_eq_getElem hj])
    · rintro e w' ⟨v', rfl, ho, _, hb⟩
      rw [List.take_of_length_le (by omega)] at ho
      exact ⟨⟨_, rfl, hown _ _ ho⟩, hb⟩

set_option maxHeartbeats 800000 in
theorem find_closure (ga gr blk off n c i : Nat) (r y : Int) (w : World) (hi : i < n) (ha : w.cell? ⟨ga, 0, none⟩ = some (.slice (some ⟨blk, off, none⟩) n c)) (hr : w.cell? ⟨gr, 0, none⟩ = some (.int .i32 r)) (hc : w.cell? ⟨blk, off + i * 3 + 1, none⟩ = some (.int .i32 y)) :
    Calls Try.prog 21 (#[.int .i64 i] ++ #[.pointer (some ⟨ga, 0, none⟩), .pointer (some ⟨gr, 0, none⟩)]) w fun e w' => e = .returned (.bool (decide (r ≤ y))) ∧ Below w.heap.size w w' := by
  have hiz : (i : Int) < (n : Int) := by omega
  go_enter Try.func21, Try.ntmps21
  go_wp2_with fail
  go_quiet (fail)
  go_wp2_with fail
  go_ret
  exact ⟨rfl, below_drewN (Below.refl _ _) _⟩

theorem enters_find : ∀ args w, (callFunc 21 args).run Try.prog w = .ok (.enter 21 args) w := enters_of Try.func21 (by kernel_rfl) rfl

set_option maxRecDepth 100000 in
set_option maxHeartbeats 1600000 in
theorem compile_find (X : Nat → Prop) (A : Option Addr) (n c : Nat) (hs : List HeadD) (r : Int) (w : World) (hn : n ≤ 400) (hr : Rises hs) (h200 : ∀ x ∈ hs, x.rules.length ≤ 200) (hl : ListX (HeadC w X) w X 3 A n hs) :
    Calls Try.prog 11 #[.slice A n c, .int .i32 r] w fun e w' => (∃ k, (∀ t x, t < k → hs[t]? = some x → x.high < r) ∧ (∀ t x, k ≤ t → hs[t]? = some x → r ≤ x.high) ∧ k ≤ n ∧ ∃ v, e = .returned v ∧ IntsV w' (fun b => w.heap.size ≤ b) (foundAt hs r k) v) ∧ Below w.heap.size w w' := by
  have HLEN := Lib.hid (show hs.length = n from hl.len)
  have HL := Lib.hid hl
  have HRI := Lib.hid hr
  have H200 := Lib.hid h200
  have HB0 := Lib.hid (((Below.refl w.heap.size w).alloc (Nat.le_refl _) (.cells #[.slice A n c] 23)).alloc (by simp) (.cells #[.int .i32 r] 21))
  have HA := Lib.hid (Blk.alloc (Blk.new w 23 #[.slice A n c]) (.cells #[.int .i32 r] 21))
  have HR := Lib.hid (show Blk ((w.alloc (.cells #[.slice A n c] 23)).alloc (.cells #[.int .i32 r] 21)) (w.heap.size + 1) 21 #[.int .i32 r] by
    have := Blk.new (w.alloc (.cells #[.slice A n c] 23)) 21 #[.int .i32 r]
    simpa using this)
  have HSS := Lib.hid (sort_search 21 #[.pointer (some ⟨w.heap.size, 0, none⟩), .pointer (some ⟨w.heap.size + 1, 0, none⟩)] n (fun i => decide (r ≤ (hs[i]?.getD ⟨0, 0, []⟩).high))
    ((w.alloc (.cells #[.slice A n c] 23)).alloc (.cells #[.int .i32 r] 21)) enters_find (by omega)
    (fun w' i hb hi => by
      obtain ⟨x, hx⟩ : ∃ z, hs[i]? = some z := ⟨_, List.getElem?_eq_getElem (by rw [HLEN.out]; exact hi)⟩
      obtain ⟨b, off, A', c', rfl, _, hbb, _, c1, _⟩ := head_at HL.out hx
      rw [hx]
      exact find_closure w.heap.size (w.heap.size + 1) b off n c i r x.high w' hi ((Blk.below HA.out hb HA.out.lt).cell 0) ((Blk.below HR.out hb HR.out.lt).cell 0)
        (((HB0.out.trans (hb.mono HB0.out.size)).cell (p := ⟨b, off + i * 3 + 1, none⟩) hbb).trans c1))
    (fun a b hab hb h => by
      obtain ⟨x, hx⟩ : ∃ z, hs[a]? = some z := ⟨_, List.getElem?_eq_getElem (by rw [HLEN.out]; omega)⟩
      obtain ⟨y, hy⟩ : ∃ z, hs[b]? = some z := ⟨_, List.getElem?_eq_getElem (by rw [HLEN.out]; omega)⟩
      simp only [hx, hy, Option.getD_some, decide_eq_true_eq] at h ⊢
      have := HRI.out a b x y hab hx hy
      omega))
  clear hl hr h200
  go_enter Try.func11, Try.ntmps11
  go_wp2_with fail
  refine HSS.out.mono ?_
  rintro e w1 ⟨k, rfl, hk, h1, h2, hb⟩
  have HK := Lib.hid (show (∀ t x, t < k → hs[t]? = some x → x.high < r) ∧ (∀ t x, k ≤ t → hs[t]? = some x → r ≤ x.high) from ⟨fun t x ht hx => by
      have := h1 t ht
      rw [hx] at this
      simpa using this, fun t x ht hx => by
      have := h2 t ht (by rw [← HLEN.out]; exact (List.getElem?_eq_some_iff.1 hx).1)
      rw [hx] at this
      simpa using this⟩)
  have a0 : w1.cell? ⟨w.heap.size, 0, none⟩ = some (.slice A n c) := (Blk.below HA.out hb HA.out.lt).cell 0
  have r0 : w1.cell? ⟨w.heap.size + 1, 0, none⟩ = some (.int .i32 r) := (Blk.below HR.out hb HR.out.lt).cell 0
  have HB := Lib.hid (HB0.out.trans (hb.mono HB0.out.size))
  have hzz := HB.out.size
  clear h1 h2 hb
  by_cases hlt : k < n
  · obtain ⟨x, hx⟩ : ∃ z, hs[k]? = some z := ⟨_, List.getElem?_eq_getElem (by rw [HLEN.out]; exact hlt)⟩
    obtain ⟨b, off, A', c', rfl, _, hbb, c0, _, c2, hr, _, _⟩ := head_at HL.out hx
    have d0 := (HB.out.cell (p := ⟨b, off + k * 3, none⟩) hbb).trans c0
    have d2 := (HB.out.cell (p := ⟨b, off + k * 3 + 2, none⟩) hbb).trans c2
    have heq : ((k : Int) == (n : Int)) = false := by rw [beq_eq_false_iff_ne]; omega
    have HCL := Lib.hid (fun nq => clone_ints A' x.rules.length c' x.rules (w1.drewN nq) ((Rd.below hr HB.out).more HB.out.size) (H200.out x (List.mem_of_getElem? hx)))
    have HF := Lib.hid (show foundAt hs r k = if r < x.low then [] else x.rules by unfold foundAt; rw [hx])
    clear hx c0 c2 hr
    by_cases hlow : r < x.low
    · have hd : decide (r < x.low) = true := decide_eq_true hlow
      go_wp2_with fail
      go_quiet (fail)
      go_wp2_with fail
      go_ret
      refine ⟨⟨k, HK.out.1, HK.out.2, hk, _, rfl, ?_⟩, below_drewN HB.out nq⟩
      rw [HF.out, if_pos hlow]
      exact ⟨none, 0, 0, rfl, ⟨rfl, fun h => absurd h (Nat.lt_irrefl 0)⟩, Nat.zero_le _⟩
    · have hd : decide (r < x.low) = false := decide_eq_false hlow
      go_wp2_with fail
      go_quiet (fail)
      have k0 : (w1.drewN nq).cell? ⟨w.heap.size, 0, none⟩ = some (.slice (some ⟨b, off, none⟩) n c) := a0
      have k2 : (w1.drewN nq).cell? ⟨b, off + k * 3 + 2, none⟩ = some (.slice A' x.rules.length c') := d2
      go_wp2_with fail
      refine (HCL.out nq).mono ?_
      rintro e w3 ⟨⟨v, rfl, hv⟩, hb3⟩
      have HV := Lib.hid (hv.keep (Keeps.refl (X' := fun b => w.heap.size ≤ b) (fun b h => Nat.le_trans hzz h.1)))
      have HB3 := Lib.hid ((below_drewN HB.out nq).trans (hb3.mono (below_drewN HB.out nq).size))
      obtain ⟨A3, c3, rfl, _⟩ := hv.form
      clear hv hb3
      go_wp2_with fail
      go_ret
      refine ⟨⟨k, HK.out.1, HK.out.2, hk, _, rfl, ?_⟩, HB3.out⟩
      rw [HF.out, if_neg (by omega)]
      exact HV.out
  · obtain rfl : k = n := by omega
    have heq : ((k : Int) == (k : Int)) = true := by simp
    have HF := Lib.hid (show foundAt hs r k = [] by unfold foundAt; rw [List.getElem?_eq_none (by rw [HLEN.out]; exact Nat.le_refl _)])
    go_wp2_with fail
    go_quiet (fail)
    go_wp2_with fail
    go_ret
    refine ⟨⟨k, HK.out.1, HK.out.2, hk, _, rfl, ?_⟩, below_drewN HB.out nq⟩
    rw [HF.out]
    exact ⟨none, 0, 0, rfl, ⟨rfl, fun h => absurd h (Nat.lt_irrefl 0)⟩, Nat.zero_le _⟩

end Go.Proofs.Ytebpmfejhfkagaa
