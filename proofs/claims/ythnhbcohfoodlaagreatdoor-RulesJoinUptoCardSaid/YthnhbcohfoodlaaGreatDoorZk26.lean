/- ConcatS -/
import Derived.Test.YthnhbcohfoodlaaGreatDoorZk24
import Derived.Lib.AppendZeros
import Derived.Lib.SliceRun
namespace Go.Proofs.YthnhbcohfoodlaaGreatDoor
open Go.RowKit
def PcsS (w : World) (outs : List Spans) (us : List Value) : Prop := ∀ (i : Nat) (l : Spans) (u : Value), outs[i]? = some l → us[i]? = some u → ∃ A n c, u = .slice A n c ∧ Rd w w.heap.size 2 A n (spanCells l)
theorem PcsS.below {w w' : World} {outs : List Spans} {us : List Value} (h : PcsS w outs us) (hb : Below w.heap.size w w') : PcsS w' outs us := by
  intro i l u h1 h2
  obtain ⟨A, n, c, e, hr⟩ := h i l u h1 h2
  exact ⟨A, n, c, e, (Rd.below hr hb).more hb.size⟩
set_option maxRecDepth 100000 in
set_option maxHeartbeats 800000 in
theorem clone_spans (A : Option Addr) (n c : Nat) (l : Spans) (w : World) (hn : n ≤ 100000) (hl : RdS w w.heap.size A n l) :
    Calls Tryz.prog 89 #[.slice A n c] w fun e w' => (∃ v, e = .returned v ∧ w'.ownsRow w.heap.size 74 2 v n (spanCells l)) ∧ Below w.heap.size w w' := by
  obtain ⟨i0, hi, z0, z1, z2⟩ := info_parts infoSpan
  have HEQ := Lib.hid (fun W => Lib.run_eql_slice_nil (P := Tryz.prog) W 22 74 A n c 0 0 Tryz.underlying22)
  have HL := Lib.hid hl
  cases A with
  | none =>
    have h0 : n = 0 := by
      rcases Nat.eq_zero_or_pos n with h | h
      · exact h
      · obtain ⟨b, o, e, _⟩ := hl.2 h
        cases e
    subst h0
    have hl0 : l = [] := List.eq_nil_of_length_eq_zero hl.len
    subst hl0
    have heq := fun W => HEQ.out W
    simp only [Option.isNone_none] at heq
    clear hl
    go_enter Tryz.func89, Tryz.ntmps89
    go_wp2_with fail
    go_ret
    exact ⟨⟨_, rfl, World.ownsRow_nil _ _ _ _⟩, Below.refl _ _⟩
  | some a =>
    have heq := fun W => HEQ.out W
    simp only [Option.isNone_some] at heq
    have HOE := Lib.hid (own_empty w 74 2 w.heap.size w.heap.size rfl (Nat.le_refl _))
    have hba := (Below.refl w.heap.size w).alloc (Nat.le_refl _) (.cells #[] 74)
    have HBA := Lib.hid hba
    have HR1 := Lib.hid ((Rd.below hl hba).more hba.size)
    clear hba hl
    go_enter Tryz.func89, Tryz.ntmps89
    go_wp2_with (at_builtin; refine wpList_append_rd _ rfl (.tmp 5) (.tmp 6) 22 rfl w.heap.size 74 i0 _ 2 8 Tryz.underlying22 hi z0 z1 z2 rfl (by decide) _ _ _ rfl HOE.out _ (some a) n c (spanCells l) rfl HR1.out (spanCells_one _) (by simp only [maxLen]; omega) (by omega) (by simp) ?_)
    intro v1 w3 happ
    have HB3 := Lib.hid (HBA.out.trans (happ.below (by simp) HOE.out))
    have HO3 := Lib.hid happ.own
    clear happ heq
    go_wp2_with fail
    go_ret
    exact ⟨⟨_, rfl, by simpa using HO3.out⟩, HB3.out⟩
set_option maxRecDepth 100000 in
set_option maxHeartbeats 800000 in
theorem grow_spans (n : Nat) (w : World) (hn : n ≤ 100000) :
    Calls Tryz.prog 94 #[.slice none 0 0, .int .i64 n] w fun e w' => (∃ v, e = .returned v ∧ w'.ownsRow w.heap.size 74 2 v 0 []) ∧ Below w.heap.size w w' := by
  obtain ⟨i0, hi, z0, z1, z2⟩ := info_parts infoSpan
  by_cases h0 : n = 0
  · subst h0
    go_enter Tryz.func94, Tryz.ntmps94
    go_wp2_with fail
    go_ret
    exact ⟨⟨_, rfl, World.ownsRow_nil _ _ _ _⟩, Below.refl _ _⟩
  · have hrun := Lib.run_append_nil_zeros (P := Tryz.prog) w 22 3 22 74 i0 (.agg #[.int .i32 0, .int .i32 0]) .i64 .i64 Tryz.underlying22 Tryz.underlying3 hi z0 n (by omega) (by omega) (by omega) (by rw [z2]; omega)
    generalize hcap : grownCap w n 0 74 = cap at hrun
    have hcge : n ≤ cap := by rw [← hcap]; exact grownCap_ge w _ 0 74
    have hcle : cap ≤ maxLen := by rw [← hcap]; exact grownCap_le_maxLen w _ 0 74 (by simp only [maxLen]; omega)
    generalize hZ : (Builtin.zeroCells (Value.agg #[.int .i32 0, .int .i32 0]).cells n ++ Builtin.zeroCells (Value.agg #[.int .i32 0, .int .i32 0]).cells (cap - n)) = Z at hrun
    have hZs : Z.size = cap * 2 := by rw [← hZ]; simp [size_zeroCells, Value.cells]; omega
    have HR := Lib.hid hrun
    have HO := Lib.hid (show (w.drew.alloc (.cells Z 74)).ownsRow w.heap.size 74 2 (.slice (some ⟨w.heap.size, 0, none⟩) 0 cap) 0 [] from
      ⟨rfl, .inr ⟨w.heap.size, cap, Z, rfl, Nat.le_refl _, heap_alloc_new w.drew _, Nat.zero_le _, hcle, by omega, by simp⟩⟩)
    have HB := Lib.hid (show Below w.heap.size w (w.drew.alloc (.cells Z 74)) from ((Below.refl w.heap.size w).drew).alloc (Nat.le_refl _) _)
    clear hcap hZ hZs hrun
    go_enter Tryz.func94, Tryz.ntmps94
    go_wp2_with (at_builtin; refine Lib.wpList_append_run _ rfl (.tmp 20) (.tmp 21) _ _ rfl (.slice none 0 0) (.int .i64 n) rfl rfl _ _ HR.out ?_)
    go_wp2_with fail
    go_ret
    exact ⟨⟨_, rfl, HO.out⟩, HB.out⟩
theorem flatS_take {outs : List Spans} {k : Nat} {x : Spans} (h : outs[k]? = some x) : (outs.take (k + 1)).flatten = (outs.take k).flatten ++ x := by
  rw [List.take_add_one, h]
  simp
theorem flatS_le (outs : List Spans) (k : Nat) : (outs.take k).flatten.length ≤ outs.flatten.length := by
  have h := congrArg (fun z : List Spans => z.flatten.length) (List.take_append_drop k outs)
  simp only [List.flatten_append, List.length_append] at h
  omega
def CsRel (w : World) (outs : List Spans) (m : Nat) (s3 i : Value) (wr : World) : Prop :=
  ∃ k : Nat, k ≤ m ∧ i = .int .i64 k ∧ s3 = .int .i64 (outs.take k).flatten.length ∧ w = wr
def CsRel2 (w : World) (outs : List Spans) (m : Nat) (s6 i : Value) (wr : World) : Prop :=
  ∃ (k N : Nat), k ≤ m ∧ i = .int .i64 k ∧ (outs.take k).flatten.length = N ∧ wr.ownsRow w.heap.size 74 2 s6 N (spanCells (outs.take k).flatten) ∧ Below w.heap.size w wr
set_option maxRecDepth 100000 in
set_option maxHeartbeats 1600000 in
theorem concat_spans (outs : List Spans) (us : List Value) (A : Option Addr) (m c : Nat) (w : World) (hlen : outs.length = m) (hrd : Rd w w.heap.size 1 A m us) (hpc : PcsS w outs us) (hsum : outs.flatten.length ≤ 100000) (hm : m ≤ 100000) :
    Calls Tryz.prog 51 #[.slice A m c] w fun e w' => (∃ v, e = .returned v ∧ w'.ownsRow w.heap.size 74 2 v outs.flatten.length (spanCells outs.flatten)) ∧ Below w.heap.size w w' := by
  obtain ⟨i0, hi, z0, z1, z2⟩ := info_parts infoSpan
  have HLEN := Lib.hid hlen
  have HRD := Lib.hid hrd
  have HPC := Lib.hid hpc
  have HUL := Lib.hid (show us.length = m by have := hrd.1; omega)
  have HSUM := Lib.hid hsum
  clear hlen hrd hpc hsum
  go_enter Tryz.func51, Tryz.ntmps51
  go_wp2_with fail
  go_loopw [3, 11] (CsRel w outs m) (fun _ i _ => m - (intOf i).toNat)
  case atStart => exact ⟨0, Nat.zero_le _, rfl, rfl, rfl⟩
  case round =>
    obtain ⟨k, hk, rfl, rfl, rfl⟩ := hrel
    obtain ⟨S, hS⟩ : ∃ S, (outs.take k).flatten.length = S := ⟨_, rfl⟩
    have hS1 : S ≤ 100000 := by have := flatS_le outs k; have := HSUM.out; omega
    by_cases hlt : k < m
    · obtain ⟨x, hx⟩ : ∃ x, outs[k]? = some x := ⟨_, List.getElem?_eq_getElem (by rw [HLEN.out]; exact hlt)⟩
      obtain ⟨u, hu⟩ : ∃ u, us[k]? = some u := ⟨_, List.getElem?_eq_getElem (by rw [HUL.out]; exact hlt)⟩
      obtain ⟨P, n1, c1, rfl, hr⟩ := HPC.out k x u hx hu
      obtain ⟨b, o, rfl, _, hc⟩ := HRD.out.2 (by omega)
      have u0 := hc _ _ hu
      have hl1 := hr.1
      rw [spanCells_length] at hl1
      have HFT := Lib.hid (show (outs.take (k + 1)).flatten.length = S + n1 by rw [flatS_take hx, List.length_append, hS]; omega)
      have hn1 : S + n1 ≤ 100000 := by have := HFT.out; have := flatS_le outs (k + 1); have := HSUM.out; omega
      have hk0 : (0 : Int) ≤ (k : Int) := by omega
      have hd0 : decide ((S : Int) + (n1 : Int) < 0) = false := decide_eq_false (by omega)
      rw [hS]
      clear hx hu hr hc hl1 hS
      go_wp2_with fail
      exact ⟨⟨k + 1, by omega, by go_num, by rw [HFT.out]; go_num, rfl⟩, by simp [intOf]; omega⟩
    · obtain rfl : k = m := by omega
      rw [List.take_of_length_le (by rw [HLEN.out]; exact Nat.le_refl _)] at hS ⊢
      have HS := Lib.hid hS
      rw [hS]
      clear hS
      go_wp2_with fail
      refine (grow_spans S _ hS1).mono ?_
      rintro e w1 ⟨⟨v, rfl, ho⟩, hb1⟩
      have HO := Lib.hid ho
      have HB := Lib.hid hb1
      obtain ⟨A1, c1, rfl, _⟩ := own_form ho
      clear ho hb1
      go_wp2_with fail
      go_loopw [6, 27] (CsRel2 w outs k) (fun _ i _ => k - (intOf i).toNat)
      case atStart => exact ⟨0, 0, Nat.zero_le _, rfl, rfl, HO.out, HB.out⟩
      case round =>
        obtain ⟨j, N, hj, rfl, hN, ho, hb⟩ := hrel
        have HO := Lib.hid ho
        have HB := Lib.hid hb
        have HN := Lib.hid hN
        have hz := hb.size
        have hN1 : N ≤ 100000 := by have := flatS_le outs j; have := HSUM.out; omega
        obtain ⟨A2, c2, rfl, _⟩ := own_form ho
        clear ho hN
        by_cases hlt : j < k
        · obtain ⟨x, hx⟩ : ∃ x, outs[j]? = some x := ⟨_, List.getElem?_eq_getElem (by rw [HLEN.out]; exact hlt)⟩
          obtain ⟨u, hu⟩ : ∃ u, us[j]? = some u := ⟨_, List.getElem?_eq_getElem (by rw [HUL.out]; exact hlt)⟩
          obtain ⟨P, n1, c1', rfl, hr⟩ := (HPC.out.below hb) j x u hx hu
          obtain ⟨b, o, rfl, hbb, hc⟩ := (Rd.below HRD.out hb).2 (by omega)
          have u0 := hc _ _ hu
          have hl1 := hr.1
          rw [spanCells_length] at hl1
          have HFT := Lib.hid (flatS_take hx)
          have HFL := Lib.hid (show (outs.take (j + 1)).flatten.length = N + n1 by rw [flatS_take hx, List.length_append, HN.out]; omega)
          have hn1 : N + n1 ≤ 100000 := by have := HFL.out; have := flatS_le outs (j + 1); have := HSUM.out; omega
          have HR := Lib.hid hr
          clear hx hu hr hc hl1 hb
          go_wp2_with (at_builtin; refine wpList_append_rd _ rfl (.tmp 31) (.tmp 32) 22 rfl w.heap.size 74 i0 _ 2 8 Tryz.underlying22 hi z0 z1 z2 rfl (by decide) _ N _ rfl HO.out _ P n1 c1' (spanCells x) rfl HR.out (spanCells_one _) (by simp only [maxLen]; omega) (by omega) hz ?_)
          intro v' w9 happ
          have HB9 := Lib.hid (HB.out.trans (happ.below hz HO.out))
          have HO9 := Lib.hid (show w9.ownsRow w.heap.size 74 2 v' (N + n1) (spanCells (outs.take (j + 1)).flatten) by rw [HFT.out, spanCells_app2]; exact happ.own)
          clear happ
          go_wp2_with fail
          exact ⟨⟨j + 1, N + n1, by omega, by go_num, HFL.out, HO9.out, HB9.out⟩, by simp [intOf]; omega⟩
        · obtain rfl : j = k := by omega
          have HF := Lib.hid (show wr.ownsRow w.heap.size 74 2 (.slice A2 N c2) outs.flatten.length (spanCells outs.flatten) by
            have h1 := HO.out
            have h2 := HN.out
            rw [List.take_of_length_le (by rw [HLEN.out]; exact Nat.le_refl _)] at h1 h2
            rw [h2]
            exact h1)
          clear hb
          go_wp2_with fail
          go_ret
          exact ⟨⟨_, rfl, HF.out⟩, HB.out⟩
end Go.Proofs.YthnhbcohfoodlaaGreatDoor
