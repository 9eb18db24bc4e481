/- Names: the walks of rulesyn.Named and of scriptref5.Named: both tell namedP. -/
import Derived.Test.YthcjiainpaebfaaRows
import Derived.Test.YthcjiainpaebfaaMem
import Derived.Lib.ConvBytes
namespace Go.Proofs.Ythcjiainpaebfaa
open Go.RowKit

def nameCh (i : Nat) (c : UInt8) : Bool := decide ((97 ≤ c.toNat ∧ c.toNat ≤ 122) ∨ c.toNat = 95 ∨ (0 < i ∧ 48 ≤ c.toNat ∧ c.toNat ≤ 57))
def namedP (s : ByteArray) : Bool := decide (1 ≤ s.size ∧ s.size ≤ 20 ∧ ∀ i (h : i < s.size), nameCh i s[i] = true)

theorem named_no {s : ByteArray} {j : Nat} (h : j < s.size) (hc : nameCh j s[j] = false) : namedP s = false := by
  unfold namedP
  rw [decide_eq_false_iff_not]
  intro h2
  rw [h2.2.2 j h] at hc
  cases hc

def NmRel (w : World) (s : ByteArray) (i : Value) (wr : World) : Prop :=
  ∃ j : Nat, j ≤ s.size ∧ i = .int .i64 j ∧ (∀ k (h : k < s.size), k < j → nameCh k s[k] = true) ∧ wr = w

theorem nm_step {s : ByteArray} {j : Nat} (h : j < s.size) (hc : nameCh j s[j] = true) (hp : ∀ k (h : k < s.size), k < j → nameCh k s[k] = true) : ∀ k (h : k < s.size), k < j + 1 → nameCh k s[k] = true := by
  intro k hk hlt
  by_cases e : k = j
  · subst e; exact hc
  · exact hp k hk (by omega)

set_option maxRecDepth 100000 in
set_option maxHeartbeats 1600000 in
theorem rulesyn_named (s : ByteArray) (w : World) :
    Calls Try.prog 42 #[.string s] w fun e w' => e = .returned (.bool (namedP s)) ∧ w = w' := by
  by_cases hs : 1 ≤ s.size ∧ s.size ≤ 20
  · obtain ⟨hs1, hs2⟩ := hs
    go_enter Try.func42, Try.ntmps42
    go_wp2_with fail
    go_loopw [15] (NmRel w s) (fun i _ => s.size - (intOf i).toNat)
    case atStart => exact ⟨0, Nat.zero_le _, rfl, by omega, rfl⟩
    case round =>
      obtain ⟨j, hj, rfl, hall, rfl⟩ := hrel
      by_cases hlt : j < s.size
      · have hx : s[j].toNat < 256 := UInt8.toNat_lt s[j]
        cases hc : nameCh j s[j]
        · have HN := Lib.hid (named_no hlt hc)
          have hc2 : s[j].toNat < 48 ∨ (57 < s[j].toNat ∧ s[j].toNat < 95) ∨ (95 < s[j].toNat ∧ s[j].toNat < 97) ∨ 122 < s[j].toNat ∨ (j = 0 ∧ 48 ≤ s[j].toNat ∧ s[j].toNat ≤ 57) := by
            simp [nameCh] at hc
            omega
          have h95 : ((s[j].toNat : Int) != 95) = true := by simp; omega
          clear hc hall
          by_cases hj0 : j = 0
          · subst hj0
            rcases (show s[0].toNat < 97 ∨ 122 < s[0].toNat by omega) with h1 | h1
            all_goals
              go_wp2_with fail
              go_ret
              rw [HN.out]
              exact ⟨rfl, rfl⟩
          have hj1 : ((j : Int) == 0) = false := by simp; omega
          rcases (show s[j].toNat < 48 ∨ (57 < s[j].toNat ∧ s[j].toNat < 97) ∨ 122 < s[j].toNat by omega) with h1 | ⟨h1, h2⟩ | h1
          all_goals
            go_wp2_with fail
            go_ret
            rw [HN.out]
            exact ⟨rfl, rfl⟩
        · have HA := Lib.hid (nm_step hlt hc hall)
          have hc2 : (97 ≤ s[j].toNat ∧ s[j].toNat ≤ 122) ∨ s[j].toNat = 95 ∨ (0 < j ∧ 48 ≤ s[j].toNat ∧ s[j].toNat ≤ 57) := by
            simpa [nameCh] using hc
          clear hc hall
          rcases hc2 with ⟨h1, h2⟩ | h1 | ⟨h1, h2, h3⟩
          · go_wp2_with fail
            exact ⟨⟨j + 1, by omega, by go_num, HA.out, rfl⟩, by simp [intOf]; omega⟩
          · have h95 : ((s[j].toNat : Int) != 95) = false := by simp; omega
            go_wp2_with fail
            exact ⟨⟨j + 1, by omega, by go_num, HA.out, rfl⟩, by simp [intOf]; omega⟩
          · have h95 : ((s[j].toNat : Int) != 95) = true := by simp; omega
            have hj1 : ((j : Int) == 0) = false := by simp; omega
            go_wp2_with fail
            exact ⟨⟨j + 1, by omega, by go_num, HA.out, rfl⟩, by simp [intOf]; omega⟩
      · have hP : namedP s = true := by
          unfold namedP
          rw [decide_eq_true_iff]
          exact ⟨hs1, hs2, fun i h => hall i h (by omega)⟩
        have HP := Lib.hid hP
        clear hall hP
        go_wp2_with fail
        go_ret
        rw [HP.out]
        exact ⟨rfl, rfl⟩
  · have HP := Lib.hid (show namedP s = false by
      unfold namedP
      rw [decide_eq_false_iff_not]
      exact fun h => hs ⟨h.1, h.2.1⟩)
    have hs2 : s.size < 1 ∨ (1 ≤ s.size ∧ 20 < s.size) := by omega
    clear hs
    rcases hs2 with h1 | ⟨h1, h2⟩
    all_goals
      go_enter Try.func42, Try.ntmps42
      go_wp2_with fail
      go_ret
      rw [HP.out]
      exact ⟨rfl, rfl⟩

def firstB (r : Int) : Bool := decide ((97 ≤ r ∧ r ≤ 122) ∨ r = 95)
theorem ref_first (r : Int) (w : World) :
    Calls Try.prog 49 #[.int .i32 r] w fun e w' => e = .returned (.bool (firstB r)) ∧ w = w' := by
  go_enter Try.func49, Try.ntmps49
  go_wp2
  all_goals go_ret
  all_goals refine ⟨ret_bool ?_, rfl⟩
  all_goals (rw [Bool.eq_iff_iff]; simp [firstB]; try omega)

def NmRel2 (s : ByteArray) (W : World) (i : Value) (wr : World) : Prop :=
  ∃ j : Nat, j ≤ s.size ∧ i = .int .i64 j ∧ (∀ k (h : k < s.size), k < j → nameCh k s[k] = true) ∧ wr = W

theorem byte_getD (s : ByteArray) (j : Nat) (h : j < s.size) : s.data.toList.getD j 0 = s[j] := by
  have h' : j < s.data.toList.length := by simpa using h
  rw [List.getD_eq_getElem?_getD, List.getElem?_eq_getElem h']
  simp
  rfl

set_option maxRecDepth 100000 in
set_option maxHeartbeats 1600000 in
theorem ref_named (s : ByteArray) (hs : s.size ≤ 9223372036854775807) (w : World) :
    Calls Try.prog 36 #[.string s] w fun e w' => e = .returned (.bool (namedP s)) ∧ Below w.heap.size w w' := by
  have hcv := Lib.run_convert_string_bytes (P := Try.prog) w 9 89 5 s Try.underlying9 Try.underlying89 Try.underlying5
  have hcell : ∀ j, (h : j < s.size) → (Lib.bytesWorld w 5 s).cell? ⟨w.heap.size, j, none⟩ = some (.int .u8 s[j].toNat) := fun j h => by
    rw [← byte_getD s j h]
    exact Lib.bytesWorld_cell w 5 s j h
  have hB : Below w.heap.size w (Lib.bytesWorld w 5 s) := Lib.below_freeze (((Below.refl _ _).drew).alloc (Nat.le_refl _) _) (p := ⟨w.heap.size, _, none⟩) (Nat.le_refl _) _
  generalize Lib.bytesWorld w 5 s = W at *
  generalize Go.grownCap w s.size 0 5 = C at *
  have HC := Lib.hid hcell
  clear hcell
  go_enter Try.func36, Try.ntmps36
  go_wp2_with fail
  go_loopw [8] (NmRel2 s W) (fun i _ => s.size - (intOf i).toNat)
  case atStart => exact ⟨0, Nat.zero_le _, rfl, by omega, rfl⟩
  case round =>
    obtain ⟨j, hj, rfl, hall, rfl⟩ := hrel
    by_cases hlt : j < s.size
    · have hx : s[j].toNat < 256 := UInt8.toNat_lt s[j]
      have d0 := HC.out j hlt
      have hw1 : IntKind.i32.wrap (s[j].toNat : Int) = (s[j].toNat : Int) := IntWalk.i32_in _ (by omega)
      cases hc : nameCh j s[j]
      · have HN := Lib.hid (named_no hlt hc)
        have hc2 : firstB (s[j].toNat : Int) = false ∧ (j = 0 ∨ (0 < j ∧ s[j].toNat < 48) ∨ (0 < j ∧ 48 ≤ s[j].toNat ∧ 57 < s[j].toNat)) := by
          simp [nameCh] at hc
          simp [firstB]
          omega
        obtain ⟨hf, hc3⟩ := hc2
        clear hc hall
        have hF : ∀ w, Calls Try.prog 49 #[.int .i32 s[j].toNat] w fun e w' => e = .returned (.bool false) ∧ w = w' := fun w => by
          have := ref_first s[j].toNat w
          rwa [hf] at this
        rcases hc3 with rfl | ⟨h1, h2⟩ | ⟨h1, h2, h3⟩
        · go_wp2_with fail
          refine (hF _).mono ?_
          rintro e w' ⟨rfl, rfl⟩
          go_wp2_with fail
          go_ret
          rw [HN.out]
          exact ⟨rfl, hB⟩
        all_goals
          have hj1 : ((j : Int) == 0) = false := by simp; omega
          go_wp2_with fail
          refine (hF _).mono ?_
          rintro e w' ⟨rfl, rfl⟩
          go_wp2_with fail
          go_ret
          rw [HN.out]
          exact ⟨rfl, hB⟩
      · have HA := Lib.hid (nm_step hlt hc hall)
        have hc2 : firstB (s[j].toNat : Int) = true ∨ (firstB (s[j].toNat : Int) = false ∧ 0 < j ∧ 48 ≤ s[j].toNat ∧ s[j].toNat ≤ 57) := by
          simp [nameCh] at hc
          cases hf : firstB (s[j].toNat : Int)
          · right
            simp [firstB] at hf
            exact ⟨rfl, by omega⟩
          · exact .inl rfl
        clear hc hall
        rcases hc2 with hf | ⟨hf, h1, h2, h3⟩
        · have hF : ∀ w, Calls Try.prog 49 #[.int .i32 s[j].toNat] w fun e w' => e = .returned (.bool true) ∧ w = w' := fun w => by
            have := ref_first s[j].toNat w
            rwa [hf] at this
          clear hf
          go_wp2_with fail
          refine (hF _).mono ?_
          rintro e w' ⟨rfl, rfl⟩
          go_wp2_with fail
          exact ⟨⟨j + 1, by omega, by go_num, HA.out, rfl⟩, by simp [intOf]; omega⟩
        · have hF : ∀ w, Calls Try.prog 49 #[.int .i32 s[j].toNat] w fun e w' => e = .returned (.bool false) ∧ w = w' := fun w => by
            have := ref_first s[j].toNat w
            rwa [hf] at this
          have hj1 : ((j : Int) == 0) = false := by simp; omega
          clear hf
          go_wp2_with fail
          refine (hF _).mono ?_
          rintro e w' ⟨rfl, rfl⟩
          go_wp2_with fail
          exact ⟨⟨j + 1, by omega, by go_num, HA.out, rfl⟩, by simp [intOf]; omega⟩
    · have hP : namedP s = decide (0 < s.size ∧ s.size ≤ 20) := by
        unfold namedP
        rw [decide_eq_decide]
        exact ⟨fun h => ⟨by omega, h.2.1⟩, fun h => ⟨by omega, h.2, fun i hi => hall i hi (by omega)⟩⟩
      have HP := Lib.hid hP
      clear hall hP
      rcases (show s.size = 0 ∨ (0 < s.size ∧ s.size ≤ 20) ∨ 20 < s.size by omega) with h1 | ⟨h1, h2⟩ | h1
      · have HF := Lib.hid (show namedP s = false by rw [HP.out]; simp; omega)
        go_wp2_with fail
        go_ret
        rw [HF.out]
        exact ⟨rfl, hB⟩
      · have HF := Lib.hid (show namedP s = true by rw [HP.out]; simp; omega)
        go_wp2_with fail
        go_ret
        rw [HF.out]
        exact ⟨ret_bool (decide_eq_true (by omega)), hB⟩
      · have HF := Lib.hid (show namedP s = false by rw [HP.out]; simp; omega)
        go_wp2_with fail
        go_ret
        rw [HF.out]
        exact ⟨ret_bool (decide_eq_false (by omega)), hB⟩

end Go.Proofs.Ythcjiainpaebfaa
