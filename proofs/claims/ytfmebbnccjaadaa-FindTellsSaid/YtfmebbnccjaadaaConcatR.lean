/- slices.Clone, Grow (of nil), Concat and Equal at runes. -/
import Derived.Test.YtfmebbnccjaadaaKinds
import Derived.Test.YtfmebbnccjaadaaSameI
import Derived.Lib.AppendZeros
import Derived.Lib.SliceRun
namespace Go.Proofs.Ytfmebbnccjaadaa
open Go.RowKit

/-- The slices us read as the lists outs. -/
def PcsAt (w : World) (outs : List (List Int)) (us : List Value) : Prop := ∀ (i : Nat) (l : List Int) (u : Value), outs[i]? = some l → us[i]? = some u → ∃ A n c, u = .slice A n c ∧ Rd w w.heap.size 1 A n (runeCells l)
theorem PcsAt.below {w w' : World} {outs : List (List Int)} {us : List Value} (h : PcsAt w outs us) (hb : Below w.heap.size w w') : PcsAt w' outs us := by
  intro i l u h1 h2
  obtain ⟨A, n, c, e, hr⟩ := h i l u h1 h2
  exact ⟨A, n, c, e, (Rd.below hr hb).more hb.size⟩

set_option maxRecDepth 100000 in
set_option maxHeartbeats 800000 in
theorem clone_runes (A : Option Addr) (n c : Nat) (l : List Int) (w : World) (hn : n ≤ 100000) (hl : RdR w w.heap.size A n l) :
    Calls Try.prog 55 #[.slice A n c] w fun e w' => (∃ v, e = .returned v ∧ w'.ownsRow w.heap.size 21 1 v n (runeCells l)) ∧ Below w.heap.size w w' := by
  obtain ⟨i0, hi, z0, z1, z2⟩ := info_parts Try.info21
  have HEQ := Lib.hid (fun W => Lib.run_eql_slice_nil (P := Try.prog) W 23 21 A n c 0 0 Try.underlying23)
  have HL := Lib.hid hl
  cases A with
  | none =>
    have h0 : n = 0 := by
      rcases Nat.eq_zero_or_pos n with h | h
      · exact h
      · obtain ⟨b, o, e, _⟩ := hl.2 h
        cases e
    subst h0
    have hl0 : l = [] := List.eq_nil_of_length_eq_zero hl.len
    subst hl0
    have heq := fun W => HEQ.out W
    simp only [Option.isNone_none] at heq
    clear hl
    go_enter Try.func55, Try.ntmps55
    go_wp2_with fail
    go_ret
    exact ⟨⟨_, rfl, World.ownsRow_nil _ _ _ _⟩, Below.refl _ _⟩
  | some a =>
    have heq := fun W => HEQ.out W
    simp only [Option.isNone_some] at heq
    have HOE := Lib.hid (own_empty w 21 1 w.heap.size w.heap.size rfl (Nat.le_refl _))
    have hba := (Below.refl w.heap.size w).alloc (Nat.le_refl _) (.cells #[] 21)
    have HBA := Lib.hid hba
    have HR1 := Lib.hid ((Rd.below hl hba).more hba.size)
    clear hba hl
    go_enter Try.func55, Try.ntmps55
    go_wp2_with (at_builtin; refine wpList_append_rd _ rfl (.tmp 5) (.tmp 6) 23 rfl w.heap.size 21 i0 _ 1 4 Try.underlying23 hi z0 z1 z2 rfl (by decide) _ _ _ rfl HOE.out _ (some a) n c (runeCells l) rfl HR1.out (runeCells_one _) (by simp only [maxLen]; omega) (by omega) (by simp) ?_)
    intro v1 w3 happ
    have HB3 := Lib.hid (HBA.out.trans (happ.below (by simp) HOE.out))
    have HO3 := Lib.hid happ.own
    clear happ heq
    go_wp2_with fail
    go_ret
    exact ⟨⟨_, rfl, by simpa using HO3.out⟩, HB3.out⟩

set_option maxRecDepth 100000 in
set_option maxHeartbeats 800000 in
theorem grow_nil (n : Nat) (w : World) (hn : n ≤ 100000) :
    Calls Try.prog 104 #[.slice none 0 0, .int .i64 n] w fun e w' => (∃ v, e = .returned v ∧ w'.ownsRow w.heap.size 21 1 v 0 []) ∧ Below w.heap.size w w' := by
  obtain ⟨i0, hi, z0, z1, z2⟩ := info_parts Try.info21
  by_cases h0 : n = 0
  · subst h0
    go_enter Try.func104, Try.ntmps104
    go_wp2_with fail
    go_ret
    exact ⟨⟨_, rfl, World.ownsRow_nil _ _ _ _⟩, Below.refl _ _⟩
  · have hrun := Lib.run_append_nil_zeros (P := Try.prog) w 23 3 23 21 i0 (.int .i32 0) .i64 .i64 Try.underlying23 Try.underlying3 hi z0 n (by omega) (by omega) (by omega) (by rw [z2]; omega)
    generalize hcap : grownCap w n 0 21 = cap at hrun
    have hcge : n ≤ cap := by rw [← hcap]; exact grownCap_ge w _ 0 21
    have hcle : cap ≤ maxLen := by rw [← hcap]; exact grownCap_le_maxLen w _ 0 21 (by simp only [maxLen]; omega)
    generalize hZ : (Builtin.zeroCells (Value.int .i32 0).cells n ++ Builtin.zeroCells (Value.int .i32 0).cells (cap - n)) = Z at hrun
    have hZs : Z.size = cap := by rw [← hZ]; simp [size_zeroCells, Value.cells]; omega
    have HR := Lib.hid hrun
    have HO := Lib.hid (show (w.drew.alloc (.cells Z 21)).ownsRow w.heap.size 21 1 (.slice (some ⟨w.heap.size, 0, none⟩) 0 cap) 0 [] from
      ⟨rfl, .inr ⟨w.heap.size, cap, Z, rfl, Nat.le_refl _, heap_alloc_new w.drew _, Nat.zero_le _, hcle, by omega, by simp⟩⟩)
    have HB := Lib.hid (show Below w.heap.size w (w.drew.alloc (.cells Z 21)) from ((Below.refl w.heap.size w).drew).alloc (Nat.le_refl _) _)
    clear hcap hZ hZs hrun
    go_enter Try.func104, Try.ntmps104
    go_wp2_with (at_builtin; refine Lib.wpList_append_run _ rfl (.tmp 20) (.tmp 21) _ _ rfl (.slice none 0 0) (.int .i64 n) rfl rfl _ _ HR.out ?_)
    go_wp2_with fail
    go_ret
    exact ⟨⟨_, rfl, HO.out⟩, HB.out⟩

theorem flat_take {outs : List (List Int)} {k : Nat} {x : List Int} (h : outs[k]? = some x) : (outs.take (k + 1)).flatten = (outs.take k).flatten ++ x := by
  rw [List.take_add_one, h]
  simp
theorem flat_le (outs : List (List Int)) (k : Nat) : (outs.take k).flatten.length ≤ outs.flatten.length := by
  have h := congrArg (fun z : List (List Int) => z.flatten.length) (List.take_append_drop k outs)
  simp only [List.flatten_append, List.length_append] at h
  omega
def CcRel (w : World) (outs : List (List Int)) (m : Nat) (s3 i : Value) (wr : World) : Prop :=
  ∃ k : Nat, k ≤ m ∧ i = .int .i64 k ∧ s3 = .int .i64 (outs.take k).flatten.length ∧ w = wr
def CcRel2 (w : World) (outs : List (List Int)) (m : Nat) (s6 i : Value) (wr : World) : Prop :=
  ∃ (k N : Nat), k ≤ m ∧ i = .int .i64 k ∧ (outs.take k).flatten.length = N ∧ wr.ownsRow w.heap.size 21 1 s6 N (runeCells (outs.take k).flatten) ∧ Below w.heap.size w wr

set_option maxRecDepth 100000 in
set_option maxHeartbeats 1600000 in
theorem concat_runes (outs : List (List Int)) (us : List Value) (A : Option Addr) (m c : Nat) (w : World) (hlen : outs.length = m) (hrd : Rd w w.heap.size 1 A m us) (hpc : PcsAt w outs us) (hsum : outs.flatten.length ≤ 100000) (hm : m ≤ 100000) :
    Calls Try.prog 86 #[.slice A m c] w fun e w' => (∃ v, e = .returned v ∧ w'.ownsRow w.heap.size 21 1 v outs.flatten.length (runeCells outs.flatten)) ∧ Below w.heap.size w w' := by
  obtain ⟨i0, hi, z0, z1, z2⟩ := info_parts Try.info21
  have HLEN := Lib.hid hlen
  have HRD := Lib.hid hrd
  have HPC := Lib.hid hpc
  have HUL := Lib.hid (show us.length = m by have := hrd.1; omega)
  have HSUM := Lib.hid hsum
  clear hlen hrd hpc hsum
  go_enter Try.func86, Try.ntmps86
  go_wp2_with fail
  go_loopw [3, 11] (CcRel w outs m) (fun _ i _ => m - (intOf i).toNat)
  case atStart => exact ⟨0, Nat.zero_le _, rfl, rfl, rfl⟩
  case round =>
    obtain ⟨k, hk, rfl, rfl, rfl⟩ := hrel
    obtain ⟨S, hS⟩ : ∃ S, (outs.take k).flatten.length = S := ⟨_, rfl⟩
    have hS1 : S ≤ 100000 := by have := flat_le outs k; have := HSUM.out; omega
    by_cases hlt : k < m
    · obtain ⟨x, hx⟩ : ∃ x, outs[k]? = some x := ⟨_, List.getElem?_eq_getElem (by rw [HLEN.out]; exact hlt)⟩
      obtain ⟨u, hu⟩ : ∃ u, us[k]? = some u := ⟨_, List.getElem?_eq_getElem (by rw [HUL.out]; exact hlt)⟩
      obtain ⟨P, n1, c1, rfl, hr⟩ := HPC.out k x u hx hu
      obtain ⟨b, o, rfl, _, hc⟩ := HRD.out.2 (by omega)
      have u0 := hc _ _ hu
      have hl1 := hr.1
      rw [runeCells_length] at hl1
      have HFT := Lib.hid (show (outs.take (k + 1)).flatten.length = S + n1 by rw [flat_take hx, List.length_append, hS]; omega)
      have hn1 : S + n1 ≤ 100000 := by have := HFT.out; have := flat_le outs (k + 1); have := HSUM.out; omega
      have hk0 : (0 : Int) ≤ (k : Int) := by omega
      have hd0 : decide ((S : Int) + (n1 : Int) < 0) = false := decide_eq_false (by omega)
      rw [hS]
      clear hx hu hr hc hl1 hS
      go_wp2_with fail
      exact ⟨⟨k + 1, by omega, by go_num, by rw [HFT.out]; go_num, rfl⟩, by simp [intOf]; omega⟩
    · obtain rfl : k = m := by omega
      rw [List.take_of_length_le (by rw [HLEN.out]; exact Nat.le_refl _)] at hS ⊢
      have HS := Lib.hid hS
      rw [hS]
      clear hS
      go_wp2_with fail
      refine (grow_nil S _ hS1).mono ?_
      rintro e w1 ⟨⟨v, rfl, ho⟩, hb1⟩
      have HO := Lib.hid ho
      have HB := Lib.hid hb1
      obtain ⟨A1, c1, rfl, _⟩ := own_form ho
      clear ho hb1
      go_wp2_with fail
      go_loopw [6, 27] (CcRel2 w outs k) (fun _ i _ => k - (intOf i).toNat)
      case atStart => exact ⟨0, 0, Nat.zero_le _, rfl, rfl, HO.out, HB.out⟩
      case round =>
        obtain ⟨j, N, hj, rfl, hN, ho, hb⟩ := hrel
        have HO := Lib.hid ho
        have HB := Lib.hid hb
        have HN := Lib.hid hN
        have hz := hb.size
        have hN1 : N ≤ 100000 := by have := flat_le outs j; have := HSUM.out; omega
        obtain ⟨A2, c2, rfl, _⟩ := own_form ho
        clear ho hN
        by_cases hlt : j < k
        · obtain ⟨x, hx⟩ : ∃ x, outs[j]? = some x := ⟨_, List.getElem?_eq_getElem (by rw [HLEN.out]; exact hlt)⟩
          obtain ⟨u, hu⟩ : ∃ u, us[j]? = some u := ⟨_, List.getElem?_eq_getElem (by rw [HUL.out]; exact hlt)⟩
          obtain ⟨P, n1, c1', rfl, hr⟩ := (HPC.out.below hb) j x u hx hu
          obtain ⟨b, o, rfl, hbb, hc⟩ := (Rd.below HRD.out hb).2 (by omega)
          have u0 := hc _ _ hu
          have hl1 := hr.1
          rw [runeCells_length] at hl1
          have HFT := Lib.hid (flat_take hx)
          have HFL := Lib.hid (show (outs.take (j + 1)).flatten.length = N + n1 by rw [flat_take hx, List.length_append, HN.out]; omega)
          have hn1 : N + n1 ≤ 100000 := by have := HFL.out; have := flat_le outs (j + 1); have := HSUM.out; omega
          have HR := Lib.hid hr
          clear hx hu hr hc hl1 hb
          go_wp2_with (at_builtin; refine wpList_append_rd _ rfl (.tmp 31) (.tmp 32) 23 rfl w.heap.size 21 i0 _ 1 4 Try.underlying23 hi z0 z1 z2 rfl (by decide) _ N _ rfl HO.out _ P n1 c1' (runeCells x) rfl HR.out (runeCells_one _) (by simp only [maxLen]; omega) (by omega) hz ?_)
          intro v' w9 happ
          have HB9 := Lib.hid (HB.out.trans (happ.below hz HO.out))
          have HO9 := Lib.hid (show w9.ownsRow w.heap.size 21 1 v' (N + n1) (runeCells (outs.take (j + 1)).flatten) by rw [HFT.out, runeCells_append]; exact happ.own)
          clear happ
          go_wp2_with fail
          exact ⟨⟨j + 1, N + n1, by omega, by go_num, HFL.out, HO9.out, HB9.out⟩, by simp [intOf]; omega⟩
        · obtain rfl : j = k := by omega
          have HF := Lib.hid (show wr.ownsRow w.heap.size 21 1 (.slice A2 N c2) outs.flatten.length (runeCells outs.flatten) by
            have h1 := HO.out
            have h2 := HN.out
            rw [List.take_of_length_le (by rw [HLEN.out]; exact Nat.le_refl _)] at h1 h2
            rw [h2]
            exact h1)
          clear hb
          go_wp2_with fail
          go_ret
          exact ⟨⟨_, rfl, HF.out⟩, HB.out⟩

theorem RdR.at' {w : World} {B n : Nat} {A : Option Addr} {l : List Int} (h : RdR w B A n l) {k : Nat} {x : Int} (hk : l[k]? = some x) :
    ∃ b off : Nat, A = some ⟨b, off, none⟩ ∧ b < B ∧ w.cell? ⟨b, off + k, none⟩ = some (.int .i32 x) := by
  have hl : k < l.length := (List.getElem?_eq_some_iff.1 hk).1
  have := h.len
  obtain ⟨b, off, e, hb, hc⟩ := h.2 (by omega)
  exact ⟨b, off, e, hb, hc k _ (by simp [runeCells, hk])⟩

set_option maxHeartbeats 800000 in
theorem equal_runes (A C : Option Addr) (n m c d : Nat) (xs ys : List Int) (w : World) (hn : n ≤ 9223372036854775807) (hx : RdR w w.heap.size A n xs) (hy : RdR w w.heap.size C m ys) :
    Calls Try.prog 52 #[.slice A n c, .slice C m d] w fun e w' => e = .returned (.bool (xs == ys)) ∧ ∃ k, w' = w.drewN k := by
  have LX := Lib.hid hx.len
  have LY := Lib.hid hy.len
  have HX := Lib.hid hx
  have HY := Lib.hid hy
  clear hx hy
  by_cases hnm : n = m
  · subst hnm
    go_enter Try.func52, Try.ntmps52
    go_wp2_with fail
    go_loopw [13] (fun i wr => ∃ k q : Nat, k ≤ n ∧ i = .int .i64 k ∧ wr = w.drewN q ∧ xs.take k = ys.take k) (fun i _ => n - (intOf i).toNat)
    case atStart => exact ⟨0, 0, Nat.zero_le _, rfl, rfl, rfl⟩
    case round =>
      obtain ⟨k, q, hk, rfl, rfl, heq⟩ := hrel
      have HE := Lib.hid heq
      clear heq
      by_cases hlt : k < n
      · obtain ⟨x, hx⟩ : ∃ z, xs[k]? = some z := ⟨_, List.getElem?_eq_getElem (by rw [LX.out]; exact hlt)⟩
        obtain ⟨y, hy⟩ : ∃ z, ys[k]? = some z := ⟨_, List.getElem?_eq_getElem (by rw [LY.out]; exact hlt)⟩
        obtain ⟨b1, o1, rfl, hb1, hc1⟩ := RdR.at' HX.out hx
        obtain ⟨b2, o2, rfl, hb2, hc2⟩ := RdR.at' HY.out hy
        have HX1 := Lib.hid hx
        have HY1 := Lib.hid hy
        clear hx hy
        by_cases he : x = y
        · subst he
          go_wp2_with fail
          go_quiet (fail)
          go_wp2_with fail
          exact ⟨⟨k + 1, _, by omega, by go_num, rfl, sameI_step HX1.out HY1.out HE.out⟩, by simp [intOf]; omega⟩
        · have hd : (x != y) = true := by rw [bne_iff_ne]; exact he
          go_wp2_with fail
          go_quiet (fail)
          go_wp2_with fail
          go_ret
          exact ⟨ret_bool (sameI_no HX1.out HY1.out he), _, World.drewN_drewN _ _ _⟩
      · obtain rfl : k = n := by omega
        go_wp2_with fail
        go_ret
        exact ⟨ret_bool (sameI_yes LX.out LY.out HE.out), _, rfl⟩
  · have hne : ((n : Int) != (m : Int)) = true := by rw [bne_iff_ne]; omega
    go_enter Try.func52, Try.ntmps52
    go_wp2_with fail
    go_ret
    refine ⟨ret_bool ?_, 0, rfl⟩
    symm
    rw [beq_eq_false_iff_ne]
    intro e
    have h1 := LX.out
    have h2 := LY.out
    rw [e] at h1
    omega

end Go.Proofs.Ytfmebbnccjaadaa
