/- The walk of scriptlaw21.LiveTells: for any script and any keys it returns true; nothing that was there is changed. -/
import Derived.Test.YtfmebbnccjaadaaShow
import Derived.Test.YtfmebbnccjaadaaSame
namespace Go.Proofs.Ytfmebbnccjaadaa
open Go.RowKit

theorem blk_set_ne' {w : World} {g : Nat} {t : TypeId} {cs : Array Value} (h : Blk w g t cs) {p : Addr} (hp : g ≠ p.block) (u : Value) : Blk (w.setCell p u) g t cs := (Below.heap_setCell w p u g hp).trans h
theorem typedGo_len : ∀ (ks : List (Int × Int)) (acc : List Int) (j : Nat), (typedGo acc j ks).1.length ≤ acc.length + ks.length := by
  intro ks
  induction ks with
  | nil => intro acc j; simp [typedGo]
  | cons k ks ih =>
    intro acc j
    rw [typedGo]
    split
    · have h1 := ih (strikeP acc k.1 k.2).1 (j + 1)
      have h2 := strike_len acc k.1 k.2
      simp only [List.length_cons]
      omega
    · exact Nat.zero_le _
theorem typedP_len (ks : List (Int × Int)) : (typedP ks).1.length ≤ 500 := by
  unfold typedP
  split
  · exact Nat.zero_le _
  · have := typedGo_len ks [] 0
    simp only [List.length_nil] at this
    omega
theorem showF_small (s : ScriptD) (ks : List (Int × Int)) : ∀ (m i : Nat) (out : List (List Int)), (∀ x ∈ out, x.length ≤ 4000) → (∀ x ∈ (showF s ks m i out).1, x.length ≤ 4000) ∧ (showF s ks m i out).1.length ≤ out.length + m := by
  intro m
  induction m with
  | zero => intro i out h; exact ⟨h, Nat.le_refl _⟩
  | succ m ih =>
    intro i out h
    rw [showF]
    split
    · exact ⟨by simp, Nat.zero_le _⟩
    · have h2 := ih (i + 1) (out ++ [(goI s (accAt ks (i + 1))).1]) (by
        intro x hx
        rcases List.mem_append.1 hx with hx | hx
        · exact h x hx
        · simp only [List.mem_singleton] at hx
          subst hx
          exact go_small s _)
      refine ⟨h2.1, ?_⟩
      have h3 := h2.2
      rw [List.length_append, List.length_singleton] at h3
      omega
theorem showI_small (s : ScriptD) (ks : List (Int × Int)) : (∀ x ∈ (showI s ks).1, x.length ≤ 4000) ∧ (showI s ks).1.length ≤ 500 := by
  unfold showI
  split
  · exact ⟨by simp, Nat.zero_le _⟩
  · split
    · exact ⟨by simp, Nat.zero_le _⟩
    · rename_i h
      have h5 := typed_ok (ks := ks) (by simpa using h)
      have h2 := showF_small s ks ks.length 0 [] (by simp)
      refine ⟨h2.1, ?_⟩
      have h3 := h2.2
      simp only [List.length_nil] at h3
      omega
def LtRel (n : Nat) (W2 : World) (i : Value) (wr : World) : Prop := ∃ k : Nat, k ≤ n ∧ i = .int .i64 k ∧ Below W2.heap.size W2 wr

set_option maxRecDepth 100000 in
set_option maxHeartbeats 6400000 in
theorem live_tells (X : Nat → Prop) (s : ScriptD) (ks : List (Int × Int)) (A1 A2 Ak : Option Addr) (n1 c1 n2 c2 nk ck : Nat) (w : World) (hs : ScriptAt w X s A1 n1 A2 n2) (hnk : nk ≤ maxLen) (hck : nk ≤ ck) (hk : RdK w w.heap.size Ak nk ks) :
    Calls Try.prog 7 #[.agg #[.bool s.only?, .slice A1 n1 c1, .slice A2 n2 c2], .slice Ak nk ck] w fun e w' => e = .returned (.bool true) ∧ Below w.heap.size w w' := by
  have hb0 := (Below.refl w.heap.size w).alloc (Nat.le_refl _) (.cells #[.bool s.only?, .slice A1 n1 c1, .slice A2 n2 c2] 51)
  have HX0 := Lib.hid (Blk.new w 51 #[.bool s.only?, .slice A1 n1 c1, .slice A2 n2 c2])
  have HB0 := Lib.hid hb0
  have HSA := Lib.hid (fun (W : World) (hb : Below w.heap.size w W) => show ScriptAt W X s A1 n1 A2 n2 from hs.keep (Keeps.any hb))
  have HKX := Lib.hid (fun (W : World) (hb : Below w.heap.size w W) => show RdK W W.heap.size Ak nk ks from (Rd.below hk hb).more hb.size)
  have HMX := Lib.hid hnk
  simp only [maxLen] at hnk
  clear hb0 hs hk
  obtain ⟨ty, e1, e2, hT⟩ : ∃ ty e1 e2, typedP ks = (ty, e1, e2) := ⟨_, _, _, rfl⟩
  obtain ⟨outs, g1, g2, hS⟩ : ∃ outs g1 g2, showI s ks = (outs, (g1, g2)) := ⟨_, _, _, rfl⟩
  have H1 := Lib.hid (fun (W : World) (hb : Below w.heap.size w W) => show Calls Try.prog 27 #[.slice Ak nk ck] W (TypedPost W (ty, e1, e2)) by rw [← hT]; exact typed_any Ak nk ck ks W hnk (HKX.out W hb))
  have H2 := Lib.hid (fun (W : World) (hb : Below w.heap.size w W) => show Calls Try.prog 28 #[.slice Ak nk ck] W (TypedPost W (ty, e1, e2)) by rw [← hT]; exact ref21_typed Ak nk ck ks W hnk (HKX.out W hb))
  have H3 := Lib.hid (fun (W : World) (hb : Below w.heap.size w W) => show Calls Try.prog 29 #[.agg #[.bool s.only?, .slice A1 n1 c1, .slice A2 n2 c2], .slice Ak nk ck] W fun e w' => ShPost W.heap.size w' (outs, (g1, g2)) e ∧ Below W.heap.size W w' by
    rw [← hS]; exact live_show X s ks A1 A2 Ak n1 c1 n2 c2 nk ck W (HSA.out W hb) HMX.out (HKX.out W hb))
  have H4 := Lib.hid (fun (W : World) (hb : Below w.heap.size w W) => show Calls Try.prog 30 #[.agg #[.bool s.only?, .slice A1 n1 c1, .slice A2 n2 c2], .slice Ak nk ck] W fun e w' => ShPost W.heap.size w' (outs, (g1, g2)) e ∧ Below W.heap.size W w' by
    rw [← hS]; exact ref21_show X s ks A1 A2 Ak n1 c1 n2 c2 nk ck W (HSA.out W hb) HMX.out hck (HKX.out W hb))
  have hty : ty.length ≤ 500 := by have := typedP_len ks; rw [hT] at this; exact this
  have hsm := showI_small s ks
  rw [hS] at hsm
  have HSM0 := Lib.hid hsm.1
  have hol := hsm.2
  clear hsm
  clear hT hS HSA HKX HMX
  go_enter Try.func7, Try.ntmps7
  go_upto_region 1 with fail
  generalize w.alloc (.cells #[.bool s.only?, .slice A1 n1 c1, .slice A2 n2 c2] 51) = W0 at *
  have hw0 := HX0.out.lt
  go_wp2_with fail
  refine (H1.out W0 HB0.out).mono ?_
  rintro e w1 ⟨v1, rfl, ho1, hb1⟩
  dsimp only at ho1 ⊢
  have hba := (Below.refl w1.heap.size w1).alloc (Nat.le_refl _) (.cells #[.int .i64 e1, .int .i64 e2] 28)
  have hbb := hb1.trans (hba.mono hb1.size)
  have HX1 := Lib.hid (Blk.below HX0.out hbb HX0.out.lt)
  have HF1 := Lib.hid (Blk.new w1 28 #[.int .i64 e1, .int .i64 e2])
  have HB1 := Lib.hid (HB0.out.trans (hbb.mono HB0.out.size))
  obtain ⟨na, hna⟩ : ∃ na, ty.length = na := ⟨_, rfl⟩
  rw [hna] at hty
  have ho1' := own_below ho1 hba
  rw [hna] at ho1'
  obtain ⟨Aa, ca, rfl, _⟩ := own_form ho1'
  have HR1 := Lib.hid (Rd.of_own ho1')
  have HNA := Lib.hid hna
  have hw1 : w.heap.size < w1.heap.size := Nat.lt_of_lt_of_le hw0 hb1.size
  clear ho1 hb1 hba hbb ho1' hna HX0 HB0 H1
  go_upto_region 2 with fail
  generalize w1.alloc (.cells #[.int .i64 e1, .int .i64 e2] 28) = W1 at *
  have hw1' := HF1.out.lt
  go_wp2_with fail
  refine (H2.out W1 HB1.out).mono ?_
  rintro e w2 ⟨v2, rfl, ho2, hb2⟩
  dsimp only at ho2 ⊢
  have hba := (Below.refl w2.heap.size w2).alloc (Nat.le_refl _) (.cells #[.int .i64 e1, .int .i64 e2] 28)
  have hbb := hb2.trans (hba.mono hb2.size)
  have HX2 := Lib.hid (Blk.below HX1.out hbb HX1.out.lt)
  have HF2 := Lib.hid (Blk.new w2 28 #[.int .i64 e1, .int .i64 e2])
  have HF1' := Lib.hid (Blk.below HF1.out hbb HF1.out.lt)
  have HB2 := Lib.hid (HB1.out.trans (hbb.mono HB1.out.size))
  have HR1' := Lib.hid ((Rd.below HR1.out hbb).more hbb.size)
  have ho2' := own_below ho2 hba
  rw [HNA.out] at ho2'
  obtain ⟨Ab, cb, rfl, _⟩ := own_form ho2'
  have HR2 := Lib.hid (Rd.of_own ho2')
  have hw2 : w1.heap.size < w2.heap.size := Nat.lt_of_lt_of_le hw1' hb2.size
  clear ho2 hb2 hba hbb ho2' HX1 HF1 HB1 HR1 H2
  go_upto_region 3 with fail
  generalize w2.alloc (.cells #[.int .i64 e1, .int .i64 e2] 28) = W2 at *
  have hw2' := HF2.out.lt
  have a0 := HF1'.out.cell 0
  have a1 := HF1'.out.cell 1
  have b0 := HF2.out.cell 0
  have b1 := HF2.out.cell 1
  have HSM := Lib.hid (show Calls Try.prog 14 #[.slice Aa na ca, .slice Ab na cb] W2 fun e w' => e = .returned (.bool true) ∧ ∃ k, w' = W2.drewN k by
    have := ref_same Aa Ab na na ca cb ty ty W2 (by omega) HR1'.out HR2.out
    simpa using this)
  go_wp2_with fail
  refine HSM.out.mono ?_
  rintro e w3 ⟨rfl, q3, rfl⟩
  have HX3 := Lib.hid (HX2.out.drewN q3)
  have HF1 := Lib.hid (HF1'.out.drewN q3)
  have HF3 := Lib.hid (HF2.out.drewN q3)
  have HB3 := Lib.hid (below_drewN HB2.out q3)
  have hw3 : (W2.drewN q3).heap.size = W2.heap.size := rfl
  have hsz3 : w2.heap.size < (W2.drewN q3).heap.size := hw2'
  clear a0 a1 b0 b1 HSM HX2 HF2 HF1' HB2 HR1' HR2
  go_upto_region 5 with fail
  generalize W2.drewN q3 = W3 at *
  have x0 := HX3.out.cell 0
  have x1 := HX3.out.cell 1
  have x2 := HX3.out.cell 2
  clear hw3
  go_wp2_with fail
  refine (H3.out W3 HB3.out).mono ?_
  rintro e w4 ⟨⟨A3, m, c3, us, rfl, hlen, hrd, hru⟩, hb4⟩
  dsimp only at hlen hrd hru ⊢
  clear x0 x1 x2
  have HX4 := Lib.hid (Blk.below HX3.out hb4 HX3.out.lt)
  have HF1b := Lib.hid (Blk.below HF1.out hb4 HF1.out.lt)
  have HF4 := Lib.hid (Blk.below HF3.out hb4 HF3.out.lt)
  have HB4 := Lib.hid (HB3.out.trans (hb4.mono HB3.out.size))
  have hs4 := hb4.size
  have r0 := HF1b.out.cell 0
  have r1 := HF1b.out.cell 1
  have t0 := HF1b.out.frozen 0
  have t1 := HF1b.out.frozen 1
  have q1 := (HF1b.out.put 0 (.int .i64 g1)).put 1 (.int .i64 g2)
  have hks : Keeps w4 (fun b => W3.heap.size ≤ b) ((w4.setCell ⟨w1.heap.size, 0, none⟩ (.int .i64 g1)).setCell ⟨w1.heap.size, 1, none⟩ (.int .i64 g2)) (fun b => W3.heap.size ≤ b) :=
    (Keeps.setCell (X' := fun b => W3.heap.size ≤ b) (p := ⟨w1.heap.size, 0, none⟩) (.int .i64 g1) (fun b hb => by simp only; omega) (fun _ h _ => h)).trans (Keeps.setCell (p := ⟨w1.heap.size, 1, none⟩) (.int .i64 g2) (fun b hb => by have hb' : W3.heap.size ≤ b := hb; simp only; omega) (fun _ h _ => h))
  have q2 := blk_set_ne' (blk_set_ne' HX4.out (p := ⟨w1.heap.size, 0, none⟩) (by simp only; omega) (.int .i64 g1)) (p := ⟨w1.heap.size, 1, none⟩) (by simp only; omega) (.int .i64 g2)
  have q3 := blk_set_ne' (blk_set_ne' HF4.out (p := ⟨w1.heap.size, 0, none⟩) (by simp only; omega) (.int .i64 g1)) (p := ⟨w1.heap.size, 1, none⟩) (by simp only; omega) (.int .i64 g2)
  have q4 := (HB4.out.setCell (p := ⟨w1.heap.size, 0, none⟩) (by simp only; omega) (.int .i64 g1)).setCell (p := ⟨w1.heap.size, 1, none⟩) (by simp only; omega) (.int .i64 g2)
  have hsz4 : ((w4.setCell ⟨w1.heap.size, 0, none⟩ (.int .i64 g1)).setCell ⟨w1.heap.size, 1, none⟩ (.int .i64 g2)).heap.size = w4.heap.size := by simp
  have HRD4 := Lib.hid (hrd.keep hks)
  have HRU4 := Lib.hid (hru.keep hks)
  have HLEN := Lib.hid hlen
  go_upto_region 6 with fail
  clear hrd hru hlen hb4 hks r0 r1 t0 t1 HX4 HF1b HF4 HB4 HX3 HF1 HF3 HB3
  generalize (w4.setCell ⟨w1.heap.size, 0, none⟩ (.int .i64 g1)).setCell ⟨w1.heap.size, 1, none⟩ (.int .i64 g2) = W4 at *
  have HF1 := Lib.hid (show Blk W4 w1.heap.size 28 #[.int .i64 g1, .int .i64 g2] from q1)
  have HX4 := Lib.hid q2
  have HF4 := Lib.hid q3
  have HB4 := Lib.hid q4
  clear q1 q2 q3 q4
  have x0 := HX4.out.cell 0
  have x1 := HX4.out.cell 1
  have x2 := HX4.out.cell 2
  go_wp2_with fail
  refine (H4.out W4 HB4.out).mono ?_
  rintro e w5 ⟨⟨A5, m5, c5, us5, rfl, hlen, hrd, hru⟩, hb5⟩
  dsimp only at hlen hrd hru ⊢
  obtain rfl : m5 = m := by have := HLEN.out; omega
  clear x0 x1 x2
  have HF1b := Lib.hid (Blk.below HF1.out hb5 HF1.out.lt)
  have HF5 := Lib.hid (Blk.below HF4.out hb5 HF4.out.lt)
  have HB5 := Lib.hid (HB4.out.trans (hb5.mono HB4.out.size))
  have hs5 := hb5.size
  have r0 := HF5.out.cell 0
  have r1 := HF5.out.cell 1
  have t0 := HF5.out.frozen 0
  have t1 := HF5.out.frozen 1
  have q1 := (HF5.out.put 0 (.int .i64 g1)).put 1 (.int .i64 g2)
  have hks : Keeps w5 (fun b => W3.heap.size ≤ b) ((w5.setCell ⟨w2.heap.size, 0, none⟩ (.int .i64 g1)).setCell ⟨w2.heap.size, 1, none⟩ (.int .i64 g2)) (fun b => W3.heap.size ≤ b) :=
    (Keeps.setCell (X' := fun b => W3.heap.size ≤ b) (p := ⟨w2.heap.size, 0, none⟩) (.int .i64 g1) (fun b hb => by have hb' : W3.heap.size ≤ b := hb; simp only; omega) (fun _ h _ => h)).trans (Keeps.setCell (p := ⟨w2.heap.size, 1, none⟩) (.int .i64 g2) (fun b hb => by have hb' : W3.heap.size ≤ b := hb; simp only; omega) (fun _ h _ => h))
  have hk5 : Keeps w5 (fun b => W4.heap.size ≤ b) w5 (fun b => W3.heap.size ≤ b) := Keeps.refl (fun b hb => by have hb' : W4.heap.size ≤ b := hb; omega)
  have q2 := blk_set_ne' (blk_set_ne' HF1b.out (p := ⟨w2.heap.size, 0, none⟩) (by simp only; omega) (.int .i64 g1)) (p := ⟨w2.heap.size, 1, none⟩) (by simp only; omega) (.int .i64 g2)
  have q4 := (HB5.out.setCell (p := ⟨w2.heap.size, 0, none⟩) (by simp only; omega) (.int .i64 g1)).setCell (p := ⟨w2.heap.size, 1, none⟩) (by simp only; omega) (.int .i64 g2)
  have HRD5 := Lib.hid ((hrd.keep hk5).keep hks)
  have HRU5 := Lib.hid ((hru.keep hk5).keep hks)
  have HRD4' := Lib.hid ((HRD4.out.keep (Keeps.any hb5)).keep hks)
  have HRU4' := Lib.hid ((HRU4.out.keep (Keeps.any hb5)).keep hks)
  have hm63 : m5 ≤ 9223372036854775807 := by
    have := HLEN.out
    omega
  go_upto_region 7 with fail
  clear hrd hru hlen hb5 hks hk5 r0 r1 t0 t1 HF1b HF5 HB5 HX4 HF1 HF4 HB4 HRD4 HRU4
  generalize (w5.setCell ⟨w2.heap.size, 0, none⟩ (.int .i64 g1)).setCell ⟨w2.heap.size, 1, none⟩ (.int .i64 g2) = W5 at *
  have HF5 := Lib.hid (show Blk W5 w2.heap.size 28 #[.int .i64 g1, .int .i64 g2] from q1)
  have HF1 := Lib.hid q2
  have HB5 := Lib.hid q4
  clear q1 q2 q4
  have a0 := HF1.out.cell 0
  have a1 := HF1.out.cell 1
  have b0 := HF5.out.cell 0
  have b1 := HF5.out.cell 1
  have hul : us.length = m5 := by have := HRD4'.out.1; omega
  have hul5 : us5.length = m5 := by have := HRD5.out.1; omega
  have HUL := Lib.hid hul
  have HUL5 := Lib.hid hul5
  clear hul hul5
  go_wp2_with fail
  go_loopw [55] (LtRel m5 W5) (fun i _ => m5 - (intOf i).toNat)
  case atStart => exact ⟨0, Nat.zero_le _, rfl, Below.refl _ _⟩
  case round =>
    obtain ⟨k, hk, rfl, hb⟩ := hrel
    have HB := Lib.hid hb
    by_cases hlt : k < m5
    · obtain ⟨x, hx⟩ : ∃ x, outs[k]? = some x := ⟨_, List.getElem?_eq_getElem (by rw [HLEN.out]; exact hlt)⟩
      obtain ⟨u, hu⟩ : ∃ u, us[k]? = some u := ⟨_, List.getElem?_eq_getElem (by rw [HUL.out]; exact hlt)⟩
      obtain ⟨u', hu'⟩ : ∃ u, us5[k]? = some u := ⟨_, List.getElem?_eq_getElem (by rw [HUL5.out]; exact hlt)⟩
      obtain ⟨P1, k1, l1, rfl, hr1⟩ := (HRU4'.out.keep (Keeps.any hb)) k x u hx hu
      obtain ⟨P2, k2, l2, rfl, hr2⟩ := (HRU5.out.keep (Keeps.any hb)) k x u' hx hu'
      obtain ⟨p1, o1, rfl, _, _, hc1⟩ := (HRD4'.out.keep (Keeps.any hb)).2 (by omega)
      obtain ⟨p2, o2, rfl, _, _, hc2⟩ := (HRD5.out.keep (Keeps.any hb)).2 (by omega)
      have u0 := hc1 _ _ hu
      have v0 := hc2 _ _ hu'
      have hxl := HSM0.out x (List.mem_of_getElem? hx)
      have h1 := hr1.1
      have h2 := hr2.1
      rw [runeCells_length] at h1 h2
      have HSM := Lib.hid (fun (q : Nat) => show Calls Try.prog 14 #[.slice P1 k1 l1, .slice P2 k2 l2] (wr.drewN q) fun e w' => e = .returned (.bool true) ∧ ∃ k, w' = (wr.drewN q).drewN k by
        have := ref_same P1 P2 k1 k2 l1 l2 x x (wr.drewN q) (by omega) hr1.of hr2.of
        simpa using this)
      have hk0 : (0 : Int) ≤ (k : Int) := by omega
      have hk1 : (k : Int) < (m5 : Int) := by omega
      clear hx hu hu' hr1 hr2 hc1 hc2 hb h1 h2 hxl
      go_wp2_with fail
      go_quiet (first | (go_at_call 14; exact Calls.quiet_of (HSM.out _)))
      go_wp2_with fail
      exact ⟨⟨k + 1, by omega, by go_num, below_drewN HB.out nq⟩, by simp [intOf]; omega⟩
    · obtain rfl : k = m5 := by omega
      clear hb
      go_wp2_with fail
      go_ret
      exact ⟨rfl, HB5.out.trans (HB.out.mono HB5.out.size)⟩

end Go.Proofs.Ytfmebbnccjaadaa
