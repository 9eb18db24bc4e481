/- Named -/
import Derived.Test.YthnhbcohfoodlaaGreatDoorRows
import Derived.Test.YthnhbcohfoodlaaGreatDoorZk4
import Derived.Lib.ConvBytes
namespace Go.Proofs.YthnhbcohfoodlaaGreatDoor
open Go.RowKit
def nameCh (i : Nat) (c : UInt8) : Bool := decide ((97 ≤ c.toNat ∧ c.toNat ≤ 122) ∨ c.toNat = 95 ∨ (0 < i ∧ 48 ≤ c.toNat ∧ c.toNat ≤ 57))
def namedP (s : ByteArray) : Bool := decide (1 ≤ s.size ∧ s.size ≤ 20 ∧ ∀ i (h : i < s.size), nameCh i s[i] = true)
theorem named_no {s : ByteArray} {j : Nat} (h : j < s.size) (hc : nameCh j s[j] = false) : namedP s = false := by
  unfold namedP
  rw [decide_eq_false_iff_not]
  intro h2
  rw [h2.2.2 j h] at hc
  cases hc
def NmRel (w : World) (s : ByteArray) (i : Value) (wr : World) : Prop :=
  ∃ j : Nat, j ≤ s.size ∧ i = .int .i64 j ∧ (∀ k (h : k < s.size), k < j → nameCh k s[k] = true) ∧ wr = w
theorem nm_step {s : ByteArray} {j : Nat} (h : j < s.size) (hc : nameCh j s[j] = true) (hp : ∀ k (h : k < s.size), k < j → nameCh k s[k] = true) : ∀ k (h : k < s.size), k < j + 1 → nameCh k s[k] = true := by
  intro k hk hlt
  by_cases e : k = j
  · subst e; exact hc
  · exact hp k hk (by omega)
set_option maxRecDepth 100000 in
set_option maxHeartbeats 1600000 in
theorem rulesyn_named (s : ByteArray) (w : World) :
    Calls Tryz.prog 24 #[.string s] w fun e w' => e = .returned (.bool (namedP s)) ∧ w = w' := by
  by_cases hs : 1 ≤ s.size ∧ s.size ≤ 20
  · obtain ⟨hs1, hs2⟩ := hs
    go_enter Tryz.func24, Tryz.ntmps24
    go_wp2_with fail
    go_loopw [15] (NmRel w s) (fun i _ => s.size - (intOf i).toNat)
    case atStart => exact ⟨0, Nat.zero_le _, rfl, by omega, rfl⟩
    case round =>
      obtain ⟨j, hj, rfl, hall, rfl⟩ := hrel
      by_cases hlt : j < s.size
      · have hx : s[j].toNat < 256 := UInt8.toNat_lt s[j]
        cases hc : nameCh j s[j]
        · have HN := Lib.hid (named_no hlt hc)
          have hc2 : s[j].toNat < 48 ∨ (57 < s[j].toNat ∧ s[j].toNat < 95) ∨ (95 < s[j].toNat ∧ s[j].toNat < 97) ∨ 122 < s[j].toNat ∨ (j = 0 ∧ 48 ≤ s[j].toNat ∧ s[j].toNat ≤ 57) := by
            simp [nameCh] at hc
            omega
          have h95 : ((s[j].toNat : Int) != 95) = true := by simp; omega
          clear hc hall
          by_cases hj0 : j = 0
          · subst hj0
            rcases (show s[0].toNat < 97 ∨ 122 < s[0].toNat by omega) with h1 | h1
            all_goals
              go_wp2_with fail
              go_ret
              rw [HN.out]
              exact ⟨rfl, rfl⟩
          have hj1 : ((j : Int) == 0) = false := by simp; omega
          rcases (show s[j].toNat < 48 ∨ (57 < s[j].toNat ∧ s[j].toNat < 97) ∨ 122 < s[j].toNat by omega) with h1 | ⟨h1, h2⟩ | h1
          all_goals
            go_wp2_with fail
            go_ret
            rw [HN.out]
            exact ⟨rfl, rfl⟩
        · have HA := Lib.hid (nm_step hlt hc hall)
          have hc2 : (97 ≤ s[j].toNat ∧ s[j].toNat ≤ 122) ∨ s[j].toNat = 95 ∨ (0 < j ∧ 48 ≤ s[j].toNat ∧ s[j].toNat ≤ 57) := by
            simpa [nameCh] using hc
          clear hc hall
          rcases hc2 with ⟨h1, h2⟩ | h1 | ⟨h1, h2, h3⟩
          · go_wp2_with fail
            exact ⟨⟨j + 1, by omega, by go_num, HA.out, rfl⟩, by simp [intOf]; omega⟩
          · have h95 : ((s[j].toNat : Int) != 95) = false := by simp; omega
            go_wp2_with fail
            exact ⟨⟨j + 1, by omega, by go_num, HA.out, rfl⟩, by simp [intOf]; omega⟩
          · have h95 : ((s[j].toNat : Int) != 95) = true := by simp; omega
            have hj1 : ((j : Int) == 0) = false := by simp; omega
            go_wp2_with fail
            exact ⟨⟨j + 1, by omega, by go_num, HA.out, rfl⟩, by simp [intOf]; omega⟩
      · have hP : namedP s = true := by
          unfold namedP
          rw [decide_eq_true_iff]
          exact ⟨hs1, hs2, fun i h => hall i h (by omega)⟩
        have HP := Lib.hid hP
        clear hall hP
        go_wp2_with fail
        go_ret
        rw [HP.out]
        exact ⟨rfl, rfl⟩
  · have HP := Lib.hid (show namedP s = false by
      unfold namedP
      rw [decide_eq_false_iff_not]
      exact fun h => hs ⟨h.1, h.2.1⟩)
    have hs2 : s.size < 1 ∨ (1 ≤ s.size ∧ 20 < s.size) := by omega
    clear hs
    rcases hs2 with h1 | ⟨h1, h2⟩
    all_goals
      go_enter Tryz.func24, Tryz.ntmps24
      go_wp2_with fail
      go_ret
      rw [HP.out]
      exact ⟨rfl, rfl⟩
end Go.Proofs.YthnhbcohfoodlaaGreatDoor
