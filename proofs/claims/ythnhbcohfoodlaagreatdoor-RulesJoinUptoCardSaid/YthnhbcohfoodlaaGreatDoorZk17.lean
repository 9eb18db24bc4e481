/- ParseHex -/
import Derived.Test.YthnhbcohfoodlaaGreatDoorZk15
import Derived.Test.YthnhbcohfoodlaaGreatDoorZk4
import Derived.Lib.ConvBytes
import Derived.Lib.Strings
namespace Go.Proofs.YthnhbcohfoodlaaGreatDoor
open Go.RowKit
theorem lower_hex (c : Int) (w : World) (h : (65 ≤ c ∧ c ≤ 70) ∨ (97 ≤ c ∧ c ≤ 102)) :
    Calls Tryz.prog 212 #[.int .u8 c] w fun e w' => e = .returned (.int .u8 (hexV c + 87)) ∧ w' = w := by
  have hc : c = 65 ∨ c = 66 ∨ c = 67 ∨ c = 68 ∨ c = 69 ∨ c = 70 ∨ c = 97 ∨ c = 98 ∨ c = 99 ∨ c = 100 ∨ c = 101 ∨ c = 102 := by omega
  clear h
  rcases hc with rfl | rfl | rfl | rfl | rfl | rfl | rfl | rfl | rfl | rfl | rfl | rfl
  all_goals
    go_enter Tryz.func212, Tryz.ntmps212
    go_wp2_with fail
    go_ret
    exact ⟨rfl, rfl⟩
def PuRel (W : World) (ds : List Int) (u n i : Value) (wr : World) : Prop := u = .bool false ∧ ∃ j : Nat, j ≤ ds.length ∧ i = .int .i64 j ∧ n = .int .u64 (hexVal (ds.take j)) ∧ wr = W
set_option maxRecDepth 100000 in
set_option maxHeartbeats 3200000 in
theorem parse_uint (s : ByteArray) (ds : List Int) (w : World) (hs : s.data.toList = rowB ds) (hd : ∀ d ∈ ds, hexB d = true) (h1 : 1 ≤ ds.length) (h6 : ds.length ≤ 6) :
    Calls Tryz.prog 206 #[.string s, .int .i64 16, .int .i64 64] w fun e w' => e = .returned (.tuple #[.int .u64 (hexVal ds), .nilIface]) ∧ Below w.heap.size w w' := by
  have hsz : s.size = ds.length := by have h2 := congrArg List.length hs; rw [rowB, List.length_map, Array.length_toList] at h2; exact h2
  have hcv := Lib.run_convert_string_bytes (P := Tryz.prog) w 9 76 5 s Tryz.underlying9 Tryz.underlying76 Tryz.underlying5
  have hcell : ∀ j d, ds[j]? = some d → (Lib.bytesWorld w 5 s).cell? ⟨w.heap.size, j, none⟩ = some (.int .u8 d) := fun j d h => by
    have hj : j < s.size := by rw [hsz]; exact (List.getElem?_eq_some_iff.1 h).1
    have := Lib.bytesWorld_cell w 5 s j hj
    rw [this, hs]
    have hb := hex_ascii hd d (List.mem_of_getElem? h)
    have : (rowB ds).getD j 0 = UInt8.ofNat d.toNat := by simp [rowB, List.getD_eq_getElem?_getD, h]
    rw [this]
    congr 2
    simp
    omega
  have hB : Below w.heap.size w (Lib.bytesWorld w 5 s) := Lib.below_freeze (((Below.refl _ _).drew).alloc (Nat.le_refl _) _) (p := ⟨w.heap.size, _, none⟩) (Nat.le_refl _) _
  have hne : (s.toList == []) = false := by
    rw [beq_eq_false_iff_ne, Lib.toList_data]
    intro e
    have := congrArg List.length e
    rw [Array.length_toList] at this
    have h2 : s.size = 0 := this
    omega
  rw [hsz] at hcv
  generalize Lib.bytesWorld w 5 s = W at *
  generalize hk : ds.length = k at *
  generalize Go.grownCap w k 0 5 = C at *
  have HC := Lib.hid hcell
  have HD := Lib.hid hd
  clear hcell hd hs
  go_enter Tryz.func206, Tryz.ntmps206
  have hmx : IntKind.u64.wrap (IntKind.u64.wrap 18446744073709551616 - 1) = 18446744073709551615 := by decide
  go_wp2_with fail
  go_loopw [12, 13, 101] (PuRel W ds) (fun _ _ i _ => k - (intOf i).toNat)
  case atStart => exact ⟨rfl, 0, Nat.zero_le _, rfl, rfl, rfl⟩
  case round =>
    obtain ⟨rfl, j, hj, rfl, rfl, rfl⟩ := hrel
    rw [hk] at hj
    by_cases hlt : j < k
    · obtain ⟨d, hdj⟩ : ∃ z, ds[j]? = some z := ⟨_, List.getElem?_eq_getElem (by omega)⟩
      have hh := HD.out d (List.mem_of_getElem? hdj)
      have d0 := HC.out j d hdj
      obtain ⟨x0, x1⟩ := hexVal_small (l := ds.take j) (fun y hy => HD.out y (List.mem_of_mem_take hy)) (by rw [List.length_take]; omega)
      have HS := Lib.hid (show hexVal (ds.take (j + 1)) = 16 * hexVal (ds.take j) + hexV d by rw [List.take_add_one, hdj]; exact hexVal_snoc _ _)
      have hv := hexV_range hh
      have hr : (48 ≤ d ∧ d ≤ 57) ∨ (97 ≤ d ∧ d ≤ 102) ∨ (65 ≤ d ∧ d ≤ 70) := by
        unfold hexB at hh
        simpa only [Bool.or_eq_true, Bool.and_eq_true, decide_eq_true_eq] using hh
      generalize hexVal (ds.take j) = X at *
      clear hdj hh
      have hd57 : (48 ≤ d ∧ d ≤ 57 ∧ hexV d = d - 48) ∨ (¬ d ≤ 57 ∧ 65 ≤ d ∧ d ≤ 102 ∧ ((65 ≤ d ∧ d ≤ 70) ∨ (97 ≤ d ∧ d ≤ 102))) := by
        unfold hexV
        rcases hr with h | h | h
        · left; rw [if_pos h.2]; omega
        · right; omega
        · right; omega
      rcases hd57 with ⟨q1, q2, q3⟩ | ⟨q1, q2, q3, q4⟩
      · have HV := Lib.hid q3
        clear hr q3
        have hd1 : decide (48 ≤ d) = true := decide_eq_true q1
        have hd2 : decide (d ≤ 57) = true := decide_eq_true q2
        go_wp2_with fail
        exact ⟨⟨rfl, j + 1, by omega, by go_num, by rw [HS.out, HV.out]; congr 1; omega, rfl⟩, by simp [intOf]; omega⟩
      · have HL := Lib.hid (fun (W : World) => lower_hex d W (by omega))
        have hd2 : decide (d ≤ 57) = false := decide_eq_false q1
        have hd1 : decide (48 ≤ d) = true := decide_eq_true (by omega)
        have hv10 : 10 ≤ hexV d := by unfold hexV; rw [if_neg q1]; split <;> omega
        have h95 : (d == 95) = false := by simp; omega
        generalize hexV d = v at *
        clear hr q4
        go_wp2_with (go_at_call 212; refine (HL.out _).mono ?_; rintro e w1 ⟨rfl, rfl⟩)
        exact ⟨⟨rfl, j + 1, by omega, by go_num, by rw [HS.out]; congr 1; omega, rfl⟩, by simp [intOf]; omega⟩
    · obtain rfl : j = k := by omega
      rw [List.take_of_length_le (by omega)]
      go_wp2_with fail
      go_ret2
      exact ⟨rfl, hB⟩
set_option maxRecDepth 100000 in
set_option maxHeartbeats 3200000 in
theorem parse_int_in (s : ByteArray) (ds : List Int) (w : World) (hs : s.data.toList = rowB ds) (hd : ∀ d ∈ ds, hexB d = true) (h1 : 1 ≤ ds.length) (h6 : ds.length ≤ 6) :
    Calls Tryz.prog 200 #[.string s, .int .i64 16, .int .i64 64] w fun e w' => e = .returned (.tuple #[.int .i64 (hexVal ds), .nilIface]) ∧ Below w.heap.size w w' := by
  have HU := Lib.hid (parse_uint s ds w hs hd h1 h6)
  have hsz : s.size = ds.length := by have h2 := congrArg List.length hs; rw [rowB, List.length_map, Array.length_toList] at h2; exact h2
  have hne : (s.toList == []) = false := by
    rw [beq_eq_false_iff_ne, Lib.toList_data]
    intro e
    have := congrArg List.length e
    rw [Array.length_toList] at this
    have h2 : s.size = 0 := this
    omega
  obtain ⟨d, hd0⟩ : ∃ z, ds[0]? = some z := ⟨_, List.getElem?_eq_getElem (by omega)⟩
  have hh := hd d (List.mem_of_getElem? hd0)
  have hr : (48 ≤ d ∧ d ≤ 57) ∨ (97 ≤ d ∧ d ≤ 102) ∨ (65 ≤ d ∧ d ≤ 70) := by
    unfold hexB at hh
    simpa only [Bool.or_eq_true, Bool.and_eq_true, decide_eq_true_eq] using hh
  have hix : ∀ W : World, (Instr.index 9 (.string s) (.int .i64 0)).run Tryz.prog W = .ok (.int .u8 d) W := fun W => by
    rw [run_index_string W _ s _ _ Tryz.underlying9, dif_pos ⟨by omega, by omega⟩]
    have e : s.data.toList[0]? = some (UInt8.ofNat d.toNat) := by rw [hs]; simp [rowB, hd0]
    have h3 : s.data.toList[0]? = some (s[(0 : Nat)]'(by omega)) := by
      rw [List.getElem?_eq_getElem (by rw [Array.length_toList]; show 0 < s.size; omega)]
      rfl
    rw [h3] at e
    injection e with e
    simp only [Int.toNat_zero]
    rw [e]
    congr 2
    simp
    omega
  have h43 : (d == 43) = false := by simp; omega
  have h45 : (d == 45) = false := by simp; omega
  obtain ⟨x0, x1⟩ := hexVal_small hd h6
  have hmx : IntKind.u64.wrap 9223372036854775808 = 9223372036854775808 := by decide
  generalize hexVal ds = X at *
  clear hs hd hd0 hh hr
  go_enter Tryz.func200, Tryz.ntmps200
  go_wp2_with fail
  refine HU.out.mono ?_
  rintro e w1 ⟨rfl, hb⟩
  have HB := Lib.hid hb
  clear hb
  go_wp2_with fail
  go_ret2
  exact ⟨rfl, HB.out⟩
set_option maxHeartbeats 1600000 in
theorem parse_int (s : ByteArray) (ds : List Int) (w : World) (hs : s.data.toList = rowB ds) (hd : ∀ d ∈ ds, hexB d = true) (h1 : 1 ≤ ds.length) (h6 : ds.length ≤ 6) :
    Calls Tryz.prog 186 #[.string s, .int .i64 16, .int .i64 64] w fun e w' => e = .returned (.tuple #[.int .i64 (hexVal ds), .nilIface]) ∧ Below w.heap.size w w' := by
  have HI := Lib.hid (parse_int_in s ds w hs hd h1 h6)
  generalize hexVal ds = X at *
  clear hs hd
  go_enter Tryz.func186, Tryz.ntmps186
  go_wp2_with fail
  refine HI.out.mono ?_
  rintro e w1 ⟨rfl, hb⟩
  have HB := Lib.hid hb
  clear hb
  go_wp2_with fail
  go_ret2
  exact ⟨rfl, HB.out⟩
end Go.Proofs.YthnhbcohfoodlaaGreatDoor
