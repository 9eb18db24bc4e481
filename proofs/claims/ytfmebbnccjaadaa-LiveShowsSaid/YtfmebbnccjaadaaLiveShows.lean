/- The walk of scriptlaw21.LiveShows: for any script, any keys and any number it returns true; nothing that was there is changed. -/
import Derived.Test.YtfmebbnccjaadaaLiveTells
import Derived.Test.YtfmebbnccjaadaaLiveAlive
namespace Go.Proofs.Ytfmebbnccjaadaa
open Go.RowKit

theorem showF_bad (s : ScriptD) (ks : List (Int × Int)) : ∀ (m i : Nat) (out : List (List Int)), (showF s ks m i out).2.1 ≠ 0 → (showF s ks m i out).1 = [] := by
  intro m
  induction m with
  | zero => intro i out h; exact absurd rfl h
  | succ m ih =>
    intro i out h
    rw [showF] at h ⊢
    split
    · rfl
    · rename_i h2
      rw [if_neg h2] at h
      exact ih _ _ h
theorem showI_bad {s : ScriptD} {ks : List (Int × Int)} (h : (showI s ks).2.1 ≠ 0) : (showI s ks).1 = [] := by
  unfold showI at h ⊢
  split
  · rfl
  · rename_i h1
    rw [if_neg h1] at h
    split
    · rfl
    · rename_i h2
      rw [if_neg h2] at h
      exact showF_bad s ks _ _ _ h
theorem showF_ok (s : ScriptD) (ks : List (Int × Int)) : ∀ (m i : Nat) (out : List (List Int)), (showF s ks m i out).2.1 = 0 → (showF s ks m i out).1.length = out.length + m ∧ (∀ j, j < out.length → (showF s ks m i out).1[j]? = out[j]?) ∧ ∀ j, j < m → (goI s (accAt ks (i + j + 1))).2.1 = 0 ∧ (showF s ks m i out).1[out.length + j]? = some (goI s (accAt ks (i + j + 1))).1 := by
  intro m
  induction m with
  | zero => intro i out _; exact ⟨rfl, fun _ _ => rfl, fun j hj => absurd hj (Nat.not_lt_zero j)⟩
  | succ m ih =>
    intro i out h
    rw [showF] at h ⊢
    split at h
    · rename_i h2; exact absurd h h2
    · rename_i h2
      rw [if_neg h2]
      obtain ⟨k1, k2, k3⟩ := ih _ _ h
      rw [List.length_append, List.length_singleton] at k1 k2 k3
      refine ⟨by omega, fun j hj => ?_, fun j hj => ?_⟩
      · rw [k2 j (by omega), List.getElem?_append_left hj]
      · cases j with
        | zero =>
          refine ⟨by simpa using h2, ?_⟩
          have h3 := k2 out.length (by omega)
          rw [List.getElem?_append_right (Nat.le_refl _), Nat.sub_self] at h3
          exact h3
        | succ j =>
          have := k3 j (by omega)
          rw [show i + 1 + j + 1 = i + (j + 1) + 1 by omega, show out.length + 1 + j = out.length + (j + 1) by omega] at this
          exact this
theorem showI_ok {s : ScriptD} {ks : List (Int × Int)} (h : (showI s ks).2.1 = 0) : (typedP ks).2.1 = 0 ∧ (showI s ks).1.length = ks.length ∧ ∀ j, j < ks.length → (goI s (accAt ks (j + 1))).2.1 = 0 ∧ (showI s ks).1[j]? = some (goI s (accAt ks (j + 1))).1 := by
  unfold showI at h ⊢
  split at h
  · rename_i h1; exact absurd h h1
  · rename_i h1
    rw [if_neg h1]
    split at h
    · rename_i h2; exact absurd h h2
    · rename_i h2
      rw [if_neg h2]
      obtain ⟨k1, _, k3⟩ := showF_ok s ks _ _ _ h
      simp only [List.length_nil, Nat.zero_add] at k1 k3
      exact ⟨by simpa using h2, k1, k3⟩

theorem own_set_low' {w : World} {lo sz n : Nat} {T : TypeId} {v : Value} {xs : List Value} (h : w.ownsRow lo T sz v n xs) {p : Addr} (hp : p.block < lo) (u : Value) : (w.setCell p u).ownsRow lo T sz v n xs := by
  refine ⟨h.1, ?_⟩
  rcases h.2 with h2 | ⟨g, cap, cur, rfl, hg, hh, r⟩
  · exact .inl h2
  · exact .inr ⟨g, cap, cur, rfl, hg, (Below.heap_setCell w p u g (by omega)).trans hh, r⟩

set_option maxRecDepth 100000 in
set_option maxHeartbeats 6400000 in
theorem live_shows (X : Nat → Prop) (s : ScriptD) (ks : List (Int × Int)) (at_ : Int) (A1 A2 Ak : Option Addr) (n1 c1 n2 c2 nk ck : Nat) (w : World) (hs : ScriptAt w X s A1 n1 A2 n2) (hnk : nk ≤ maxLen) (hck : nk ≤ ck) (hk : RdK w w.heap.size Ak nk ks) :
    Calls Try.prog 8 #[.agg #[.bool s.only?, .slice A1 n1 c1, .slice A2 n2 c2], .slice Ak nk ck, .int .i64 at_] w fun e w' => e = .returned (.bool true) ∧ Below w.heap.size w w' := by
  have hb0 := (Below.refl w.heap.size w).alloc (Nat.le_refl _) (.cells #[.bool s.only?, .slice A1 n1 c1, .slice A2 n2 c2] 51)
  have HX0 := Lib.hid (Blk.new w 51 #[.bool s.only?, .slice A1 n1 c1, .slice A2 n2 c2])
  have HB0 := Lib.hid hb0
  have HSA := Lib.hid (fun (W : World) (hb : Below w.heap.size w W) => show ScriptAt W X s A1 n1 A2 n2 from hs.keep (Keeps.any hb))
  have HKX := Lib.hid (fun (W : World) (hb : Below w.heap.size w W) => show RdK W W.heap.size Ak nk ks from (Rd.below hk hb).more hb.size)
  have HMX := Lib.hid hnk
  have HKL := Lib.hid (show ks.length = nk from hk.len)
  have HKW := Lib.hid hk
  simp only [maxLen] at hnk
  clear hb0 hs hk
  obtain ⟨outs, g1, g2, hS⟩ : ∃ outs g1 g2, showI s ks = (outs, (g1, g2)) := ⟨_, _, _, rfl⟩
  have hsm := showI_small s ks
  have hbad := @showI_bad s ks
  have hok := @showI_ok s ks
  rw [hS] at hsm hbad hok
  dsimp only at hsm hbad hok
  have HSM0 := Lib.hid hsm.1
  have hol := hsm.2
  have HBAD := Lib.hid hbad
  have HOK := Lib.hid hok
  have H3 := Lib.hid (fun (W : World) (hb : Below w.heap.size w W) => show Calls Try.prog 29 #[.agg #[.bool s.only?, .slice A1 n1 c1, .slice A2 n2 c2], .slice Ak nk ck] W fun e w' => ShPost W.heap.size w' (outs, (g1, g2)) e ∧ Below W.heap.size W w' by
    rw [← hS]; exact live_show X s ks A1 A2 Ak n1 c1 n2 c2 nk ck W (HSA.out W hb) HMX.out (HKX.out W hb))
  clear hS hsm hbad hok
  go_enter Try.func8, Try.ntmps8
  go_upto_region 1 with fail
  generalize w.alloc (.cells #[.bool s.only?, .slice A1 n1 c1, .slice A2 n2 c2] 51) = W0 at *
  have hw0 := HX0.out.lt
  go_wp2_with fail
  refine (live_alive W0).mono ?_
  rintro e w1 ⟨rfl, hb1⟩
  have HX1 := Lib.hid (Blk.below HX0.out hb1 HX0.out.lt)
  have HB1 := Lib.hid (HB0.out.trans (hb1.mono HB0.out.size))
  have hw1 := HX1.out.lt
  clear hb1 HX0 HB0
  go_upto_region 3 with fail
  have x0 := HX1.out.cell 0
  have x1 := HX1.out.cell 1
  have x2 := HX1.out.cell 2
  go_wp2_with fail
  refine (H3.out w1 HB1.out).mono ?_
  rintro e w4 ⟨⟨A3, m, c3, us, rfl, hlen, hrd, hru⟩, hb4⟩
  dsimp only at hlen hrd hru ⊢
  have hba := (Below.refl w4.heap.size w4).alloc (Nat.le_refl _) (.cells #[.int .i64 g1, .int .i64 g2] 28)
  have hbb := hb4.trans (hba.mono hb4.size)
  have HX4 := Lib.hid (Blk.below HX1.out hbb HX1.out.lt)
  have HF4 := Lib.hid (Blk.new w4 28 #[.int .i64 g1, .int .i64 g2])
  have HB4 := Lib.hid (HB1.out.trans (hbb.mono HB1.out.size))
  have hks : Keeps w4 (fun b => w1.heap.size ≤ b) w4 (fun b => b < w4.heap.size) := fun b _ hl => ⟨rfl, hl, hl⟩
  have HRD4 := Lib.hid ((hrd.keep hks).keep (Keeps.any hba))
  have HRU4 := Lib.hid ((hru.keep hks).keep (Keeps.any hba))
  have HLEN := Lib.hid hlen
  have hs4 := hb4.size
  clear x0 x1 x2 hrd hru hlen hb4 hba hbb hks HX1 HB1 H3
  have hm : m ≤ 500 := by have := HLEN.out; omega
  go_upto_region 4 with fail
  generalize w4.alloc (.cells #[.int .i64 g1, .int .i64 g2] 28) = W4 at *
  have hw4 := HF4.out.lt
  have q0 := HF4.out.cell 0
  by_cases hz : g1 = 0
  · subst hz
    obtain ⟨ht0, hl0, hgo⟩ := HOK.out rfl
    have HGO := Lib.hid hgo
    have HTY := Lib.hid (fun i => typed_take ht0 i)
    have hmk : m = nk := by have := HLEN.out; have := HKL.out; omega
    subst hmk
    clear ht0 hl0 hgo hol HBAD HOK
    by_cases ha : 0 ≤ at_ ∧ at_ < (m : Int)
    · obtain ⟨k, rfl⟩ : ∃ k : Nat, at_ = (k : Int) := ⟨at_.toNat, by omega⟩
      have hkm : k < m := by omega
      clear ha
      have HTP := Lib.hid (show Calls Try.prog 27 #[.slice Ak (k + 1) ck] W4 (TypedPost W4 (accAt ks (k + 1), 0, 0)) by
        rw [← HTY.out (k + 1)]
        exact typed_any Ak (k + 1) ck _ W4 (by omega) (keys_take (HKX.out W4 HB4.out) (by omega)))
      obtain ⟨bk, ok, rfl, _, _⟩ := HKW.out.2 (by omega)
      have hd1 : decide ((k : Int) < 0) = false := decide_eq_false (by omega)
      have hd2 : decide ((m : Int) ≤ (k : Int)) = false := decide_eq_false (by omega)
      have hk1 : k + 1 ≤ ck := by omega
      go_wp2_with fail
      refine HTP.out.mono ?_
      rintro e w5 ⟨v5, rfl, ho5, hb5⟩
      dsimp only at ho5 ⊢
      have hal := accAt_len ks (k + 1)
      obtain ⟨na, hna⟩ : ∃ na, (accAt ks (k + 1)).length = na := ⟨_, rfl⟩
      unfold OwnR at ho5
      rw [hna] at hal ho5
      have HNA := Lib.hid hna
      obtain ⟨A5, c5, rfl, hc5⟩ := own_form ho5
      have HX5 := Lib.hid (Blk.below HX4.out hb5 HX4.out.lt)
      have HF5 := Lib.hid (Blk.below HF4.out hb5 HF4.out.lt)
      have HB5 := Lib.hid (HB4.out.trans (hb5.mono HB4.out.size))
      have HRD5 := Lib.hid (HRD4.out.keep (Keeps.any hb5))
      have HRU5 := Lib.hid (HRU4.out.keep (Keeps.any hb5))
      have hs5 := hb5.size
      have r0 := HF5.out.cell 0
      have r1 := HF5.out.cell 1
      have t0 := HF5.out.frozen 0
      have t1 := HF5.out.frozen 1
      have p1 := (HF5.out.put 0 (.int .i64 0)).put 1 (.int .i64 0)
      have p2 := blk_set_ne' (blk_set_ne' HX5.out (p := ⟨w4.heap.size, 0, none⟩) (by simp only; omega) (.int .i64 0)) (p := ⟨w4.heap.size, 1, none⟩) (by simp only; omega) (.int .i64 0)
      have p3 := (HB5.out.setCell (p := ⟨w4.heap.size, 0, none⟩) (by simp only; omega) (.int .i64 0)).setCell (p := ⟨w4.heap.size, 1, none⟩) (by simp only; omega) (.int .i64 0)
      have hks : Keeps w5 (fun b => b < w4.heap.size) ((w5.setCell ⟨w4.heap.size, 0, none⟩ (.int .i64 0)).setCell ⟨w4.heap.size, 1, none⟩ (.int .i64 0)) (fun b => b < w4.heap.size) :=
        (Keeps.setCell (X' := fun b => b < w4.heap.size) (p := ⟨w4.heap.size, 0, none⟩) (.int .i64 0) (fun b hb => by have hb' : b < w4.heap.size := hb; simp only; omega) (fun _ h _ => h)).trans (Keeps.setCell (p := ⟨w4.heap.size, 1, none⟩) (.int .i64 0) (fun b hb => by have hb' : b < w4.heap.size := hb; simp only; omega) (fun _ h _ => h))
      have HRD6 := Lib.hid (HRD5.out.keep hks)
      have HRU6 := Lib.hid (HRU5.out.keep hks)
      have HO6 := Lib.hid (Rd.of_own (own_set_low' (own_set_low' ho5 (p := ⟨w4.heap.size, 0, none⟩) (by simp only; omega) (.int .i64 0)) (p := ⟨w4.heap.size, 1, none⟩) (by simp only; omega) (.int .i64 0)))
      go_upto_region 11 with fail
      clear ho5 hb5 hks r0 r1 t0 t1 HX5 HF5 HB5 HRD5 HRU5 HTP HX4 HF4 HB4 HRD4 HRU4 q0 hna
      generalize (w5.setCell ⟨w4.heap.size, 0, none⟩ (.int .i64 0)).setCell ⟨w4.heap.size, 1, none⟩ (.int .i64 0) = W5 at *
      have HF5 := Lib.hid (show Blk W5 w4.heap.size 28 #[.int .i64 0, .int .i64 0] from p1)
      have HX5 := Lib.hid p2
      have HB5 := Lib.hid p3
      clear p1 p2 p3
      have x0 := HX5.out.cell 0
      have x1 := HX5.out.cell 1
      have x2 := HX5.out.cell 2
      obtain ⟨hg0, hgk⟩ := HGO.out k (by have := HKL.out; omega)
      obtain ⟨x, f2, hg⟩ : ∃ x f2, goI s (accAt ks (k + 1)) = (x, (0, f2)) := ⟨_, _, by rw [← hg0]⟩
      rw [hg] at hgk
      have HCG := Lib.hid (show Calls Try.prog 19 #[.agg #[.bool s.only?, .slice A1 n1 c1, .slice A2 n2 c2], .slice A5 na c5] W5 fun e w' => GoPost W5.heap.size w' (x, (0, f2)) e ∧ Below W5.heap.size W5 w' by
        rw [← hg]
        exact chain_go X s (accAt ks (k + 1)) A1 A2 A5 n1 c1 n2 c2 na c5 W5 (HSA.out W5 HB5.out) hc5 (by simp only [maxLen]; omega) HO6.out)
      have HXK := Lib.hid hgk
      clear hg0 hgk hg
      go_wp2_with fail
      refine HCG.out.mono ?_
      rintro e w6 ⟨⟨A6, n6, c6, rfl, hr6⟩, hb6⟩
      dsimp only at hr6 ⊢
      have hba := (Below.refl w6.heap.size w6).alloc (Nat.le_refl _) (.cells #[.int .i64 0, .int .i64 f2] 28)
      have hbb := hb6.trans (hba.mono hb6.size)
      have HF6 := Lib.hid (Blk.below HF5.out hbb HF5.out.lt)
      have HQ6 := Lib.hid (Blk.new w6 28 #[.int .i64 0, .int .i64 f2])
      have HB6 := Lib.hid (HB5.out.trans (hbb.mono HB5.out.size))
      have hrd7 := HRD6.out.keep (Keeps.any hbb)
      have hru7 := HRU6.out.keep (Keeps.any hbb)
      have HR6 := Lib.hid (hr6.keep (Keeps.any hba)).of
      have HXL := Lib.hid (HSM0.out x (List.mem_of_getElem? HXK.out))
      obtain ⟨u, hu⟩ : ∃ u, us[k]? = some u := ⟨_, List.getElem?_eq_getElem (by have := hrd7.1; omega)⟩
      obtain ⟨P1, k1, l1, rfl, hr1⟩ := hru7 k x u HXK.out hu
      obtain ⟨p1, o1, rfl, _, _, hc1⟩ := hrd7.2 (by omega)
      have HU0 := Lib.hid (hc1 _ _ hu)
      have HR1 := Lib.hid hr1.of
      have h1 := hr1.1
      have h2 := hr6.1
      rw [runeCells_length] at h1 h2
      have hk163 : k1 ≤ 9223372036854775807 := by have := HXL.out; omega
      clear hba hbb hb6 hr6 hrd7 hru7 hu hr1 hc1 h1 h2 x0 x1 x2 HCG HX5
      go_upto_region 12 with fail
      generalize w6.alloc (.cells #[.int .i64 0, .int .i64 f2] 28) = W6 at *
      have q0 := HF6.out.cell 0
      have q1 := HQ6.out.cell 0
      have u0 := HU0.out
      have hk0 : (0 : Int) ≤ (k : Int) := by omega
      have hk2 : (k : Int) < (m : Int) := by omega
      have HSM := Lib.hid (show Calls Try.prog 14 #[.slice P1 k1 l1, .slice A6 n6 c6] W6 fun e w' => e = .returned (.bool true) ∧ ∃ k, w' = W6.drewN k by
        have := ref_same P1 A6 k1 n6 l1 c6 x x W6 hk163 HR1.out HR6.out
        simpa using this)
      go_wp2_with fail
      refine HSM.out.mono ?_
      rintro e w7 ⟨rfl, q, rfl⟩
      go_wp2_with fail
      go_ret
      exact ⟨rfl, below_drewN HB6.out q⟩
    · by_cases hneg : at_ < 0
      · go_wp2_with fail
        go_ret
        exact ⟨rfl, HB4.out⟩
      · have hge : (m : Int) ≤ at_ := by omega
        go_wp2_with fail
        go_ret
        exact ⟨rfl, HB4.out⟩
  · have h0 := HBAD.out hz
    have hm0 : m = 0 := by have := HLEN.out; rw [h0] at this; simpa using this.symm
    subst hm0
    clear h0
    go_wp2_with fail
    go_ret
    exact ⟨rfl, HB4.out⟩

end Go.Proofs.Ytfmebbnccjaadaa
