/- One: the walk of scriptref1.One: the rune that begins at a byte, and how many bytes it is; none: 0, 0. -/
import Derived.Test.YthnhbcohfoodlaaGreatDoorOneLaw
import Derived.Test.YthnhbcohfoodlaaGreatDoorKinds
import Derived.Deep.QuietTactic
import Derived.BigQuiet
namespace Go.Proofs.YthnhbcohfoodlaaGreatDoor
open Go.RowKit

def clsCells : Array Value := #[.int .i64 192, .int .i64 224, .int .i64 2, .int .i64 128, .int .i64 224, .int .i64 240, .int .i64 3, .int .i64 2048, .int .i64 240, .int .i64 248, .int .i64 4, .int .i64 65536]
theorem clsCells_at (j : Nat) (hj : j < 3) : clsCells[j * 4]? = some (.int .i64 (clsHead j)) ∧ clsCells[j * 4 + 1]? = some (.int .i64 (clsMask j)) ∧ clsCells[j * 4 + 2]? = some (.int .i64 (clsN j)) ∧ clsCells[j * 4 + 3]? = some (.int .i64 (clsLeast j)) := by
  match j, hj with
  | 0, _ => exact ⟨rfl, rfl, rfl, rfl⟩
  | 1, _ => exact ⟨rfl, rfl, rfl, rfl⟩
  | 2, _ => exact ⟨rfl, rfl, rfl, rfl⟩

def OneRel (w : World) (s : ByteArray) (p : Nat) (i : Value) (wr : World) : Prop :=
  ∃ j : Nat, j ≤ 3 ∧ i = .int .i64 j ∧ (∀ q, q < j → clsIs q (byteAt s p) = true → ¬ p + clsN q ≤ s.size) ∧ Blk wr w.heap.size 169 clsCells ∧ Below w.heap.size w wr
def OneIn (w0 : World) (s : ByteArray) (p : Nat) (x0 : Int) (n : Nat) (x i : Value) (wr : World) : Prop :=
  ∃ k : Nat, 1 ≤ k ∧ k ≤ n ∧ i = .int .i64 k ∧ x = .int .i64 (part s p x0 (k - 1)) ∧ (∀ q : Nat, 1 ≤ q → q < k → byteAt s (p + q) / 64 = 2) ∧ wr = w0

def OnePost (w : World) (p : Int × Int) (e : Ending) (w' : World) : Prop := e = .returned (.tuple #[.int .i32 p.1, .int .i64 p.2]) ∧ Below w.heap.size w w'

set_option maxRecDepth 100000 in
set_option maxHeartbeats 1600000 in
theorem one_any (s : ByteArray) (p : Nat) (w : World) (hs : s.size ≤ 1099511627776) (hp : p < s.size) :
    Calls Tryz.prog 80 #[.string s, .int .i64 p] w (OnePost w (oneP s p)) := by
  have hbe := byteAt_eq s p hp
  have hb0 := byteAt_bd s p
  have ha := one_ascii s p
  have hno := one_none s p
  have hcut := one_cut s p
  have hwh := one_whole s p
  generalize hcc : byteAt s p = c at *
  have HCC := Lib.hid hcc
  clear hcc
  by_cases hc : c < 128
  · have HA := Lib.hid (ha hc)
    clear ha hno hcut hwh
    go_enter Tryz.func80, Tryz.ntmps80
    go_wp2
    go_ret2
    rw [HA.out]
    exact ⟨rfl, Below.refl _ _⟩
  · have HNO := Lib.hid (hno (by omega))
    have HCUT := Lib.hid hcut
    have HWH := Lib.hid hwh
    clear ha hno hcut hwh
    go_enter Tryz.func80, Tryz.ntmps80
    go_wp2
    go_loopw [25] (OneRel w s p) (fun i _ => 3 - (intOf i).toNat)
    case atStart => exact ⟨0, by omega, rfl, by omega, Blk.new _ _ _, (Below.refl _ _).alloc (Nat.le_refl _) _⟩
    case round =>
      obtain ⟨j, hj, rfl, hsk, hblk, hb⟩ := hrel
      rw [HCC.out] at hsk
      have hz := hblk.lt
      by_cases hlt : j < 3
      · obtain ⟨k0, k1, k2, k3⟩ := clsCells_at j hlt
        have r0 := (hblk.cell (j * 4)).trans k0
        have r1 := (hblk.cell (j * 4 + 1)).trans k1
        have r2 := (hblk.cell (j * 4 + 2)).trans k2
        have r3 := (hblk.cell (j * 4 + 3)).trans k3
        have hbits := cls_bits j hlt c hb0.1 hb0.2
        have hcut := HCUT.out j
        have hwh := HWH.out j hlt
        have hj3 : decide ((j : Int) < 3) = true := by simp; omega
        have hn4 : 2 ≤ clsN j ∧ clsN j ≤ 4 := by
          unfold clsN
          split
          · omega
          · split <;> omega
        have hx0 : clsIs j c = true → 0 ≤ c - clsHead j ∧ c - clsHead j < 32 := by
          unfold clsIs
          intro h
          simp only [Bool.and_eq_true, decide_eq_true_eq] at h
          split at h
          · omega
          · split at h <;> omega
        have hhead : 0 ≤ clsHead j ∧ clsHead j ≤ 240 := by
          unfold clsHead
          split
          · omega
          · split <;> omega
        have hsj := hsk
        generalize hN : clsN j = n at *
        generalize clsHead j = hd at *
        generalize clsMask j = mk at *
        generalize clsLeast j = ls at *
        have HN := Lib.hid hN
        have HSK := Lib.hid hsk
        have HCUTJ := Lib.hid hcut
        have HWHJ := Lib.hid hwh
        have HBLK := Lib.hid hblk
        clear hN hsk hsj hcut hwh hblk k0 k1 k2 k3
        by_cases hm : clsIs j c = true
        · obtain ⟨hx1, hx2⟩ := hx0 hm
          rw [hm] at hbits
          by_cases hps : p + n ≤ s.size
          · have HW1 := Lib.hid (HWHJ.out hm hps)
            have HC1 := Lib.hid (fun i => HCUTJ.out i hlt hm)
            clear HWHJ HCUTJ HSK HN HNO HCUT HWH
            go_wp2_with fail
            have hbA : Below w.heap.size w (wr.alloc (.cells #[.int .i64 hd, .int .i64 mk, .int .i64 n, .int .i64 ls] 169)) := hb.alloc (by omega) _
            obtain ⟨wo, rfl⟩ : ∃ wo : World, wo = wr := ⟨_, rfl⟩
            go_loopw [9, 10] (OneIn (wo.alloc (.cells #[.int .i64 hd, .int .i64 mk, .int .i64 n, .int .i64 ls] 169)) s p (c - hd) n) (fun _ i _ => n - (intOf i).toNat)
            case atStart => exact ⟨1, by omega, by omega, rfl, rfl, fun q h1 h2 => by omega, rfl⟩
            case round =>
              obtain ⟨k, hk1, hkn, rfl, rfl, hok, rfl⟩ := hrel
              have hpb := part_bd s p (c - hd) hx1 hx2 (k - 1) (by omega)
              have HOK := Lib.hid hok
              clear hok
              by_cases hkl : k < n
              · have hbk := byteAt_eq s (p + k) (by omega)
                have hdb := byteAt_bd s (p + k)
                have hstep : part s p (c - hd) (k + 1 - 1) = part s p (c - hd) (k - 1) * 64 + byteAt s (p + k) % 64 := by
                  obtain ⟨k', rfl⟩ : ∃ k', k = k' + 1 := ⟨k - 1, by omega⟩
                  rfl
                have hbad : byteAt s (p + k) / 64 ≠ 2 → oneP s p = (0, 0) := fun h => HC1.out k hk1 hkl h
                have hokk : byteAt s (p + k) / 64 = 2 → ∀ q, 1 ≤ q → q < k + 1 → byteAt s (p + q) / 64 = 2 := fun h q h1 h2 => by
                  by_cases hq : q = k
                  · rw [hq]; exact h
                  · exact HOK.out q h1 (by omega)
                have HS := Lib.hid hstep
                have HB := Lib.hid hbad
                have HKK := Lib.hid hokk
                clear hstep hbad hokk
                generalize byteAt s (p + k) = d at *
                generalize part s p (c - hd) (k - 1) = X at *
                have hpk : p + k < s.size := by omega
                by_cases hd2 : d / 64 = 2
                · have hdt : (d / 64 != 2) = false := by rw [bne_eq_false_iff_eq]; exact hd2
                  have HD := Lib.hid hd2
                  clear hd2
                  go_wp2_with fail
                  exact ⟨⟨k + 1, by omega, by omega, by go_num, by rw [HS.out], HKK.out HD.out, rfl⟩, by simp [intOf]; omega⟩
                · have hdt : (d / 64 != 2) = true := by rw [bne_iff_ne]; exact hd2
                  have HD := Lib.hid (HB.out hd2)
                  clear hd2
                  go_wp2_with fail
                  go_ret2
                  rw [HD.out]
                  exact ⟨rfl, hbA⟩
              · obtain rfl : k = n := by omega
                have hfin := HW1.out HOK.out
                generalize part s p (c - hd) (k - 1) = X at *
                have hX32 : X ≤ 2147483647 := by omega
                cases hls : decide (ls ≤ X)
                · rw [hls, if_neg (by simp)] at hfin
                  have HF := Lib.hid hfin
                  clear hfin
                  go_wp2_with fail
                  go_ret2
                  rw [HF.out]
                  exact ⟨rfl, hbA⟩
                · cases hrt : rightB X
                  · rw [hls, hrt, if_neg (by simp)] at hfin
                    have HF := Lib.hid hfin
                    clear hfin
                    go_wp2_with (go_at_call 131; refine (ref_right _ _).mono ?_; rintro e w' ⟨rfl, rfl⟩)
                    go_ret2
                    rw [HF.out]
                    exact ⟨rfl, hbA⟩
                  · rw [hls, hrt, if_pos (by simp)] at hfin
                    have HF := Lib.hid hfin
                    clear hfin
                    go_wp2_with (go_at_call 131; refine (ref_right _ _).mono ?_; rintro e w' ⟨rfl, rfl⟩)
                    go_quiet (fail)
                    go_wp2
                    go_ret2
                    rw [HF.out]
                    exact ⟨rfl, below_drewN hbA _⟩
          · have hps2 : s.size < p + n := by omega
            have hsk2 : ∀ q, q < j + 1 → clsIs q c = true → ¬ p + clsN q ≤ s.size := fun q hq h => by
              by_cases hqj : q = j
              · subst hqj; rw [HN.out]; omega
              · exact HSK.out q (by omega) h
            have HSK2 := Lib.hid hsk2
            clear hsk2
            go_wp2_with fail
            exact ⟨⟨j + 1, by omega, by go_num, by rw [HCC.out]; exact HSK2.out, HBLK.out.alloc _, hb.alloc (by omega) _⟩, by simp [intOf]; omega⟩
        · have hmf : clsIs j c = false := by simpa using hm
          rw [hmf] at hbits
          have hsk2 : ∀ q, q < j + 1 → clsIs q c = true → ¬ p + clsN q ≤ s.size := fun q hq h => by
            by_cases hqj : q = j
            · subst hqj; rw [h] at hmf; cases hmf
            · exact HSK.out q (by omega) h
          have HSK2 := Lib.hid hsk2
          clear hsk2
          go_wp2_with fail
          exact ⟨⟨j + 1, by omega, by go_num, by rw [HCC.out]; exact HSK2.out, HBLK.out.alloc _, hb.alloc (by omega) _⟩, by simp [intOf]; omega⟩
      · obtain rfl : j = 3 := by omega
        have HF := Lib.hid (HNO.out hsk)
        clear hsk
        go_wp2_with fail
        go_ret2
        rw [HF.out]
        exact ⟨rfl, hb⟩

end Go.Proofs.YthnhbcohfoodlaaGreatDoor
