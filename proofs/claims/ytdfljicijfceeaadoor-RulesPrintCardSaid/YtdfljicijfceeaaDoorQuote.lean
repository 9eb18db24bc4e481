/- A rune as a set's text writes it: the walks of setsyn.Quote and of scriptref3.Quote: both tell quoteP. -/
import Derived.Test.YtdfljicijfceeaaDoorHex
import Derived.Test.YtdfljicijfceeaaDoorRefBytes
namespace Go.Proofs.YtdfljicijfceeaaDoor
open Go.RowKit

def alnumB (r : Int) : Bool := decide ((48 ≤ r ∧ r ≤ 57) ∨ (65 ≤ r ∧ r ≤ 90) ∨ (97 ≤ r ∧ r ≤ 122))
/-- How a rune is written. -/
def quoteP (r : Int) : List UInt8 := if alnumB r = true ∨ (126 < r ∧ rightB r = true) then Lib.encodeRune r else [92, 117, 123] ++ hexL r.toNat ++ [125]

theorem ref_alnum (r : Int) (w : World) :
    Calls Tryd.prog 54 #[.int .i32 r] w fun e w' => e = .returned (.bool (alnumB r)) ∧ w = w' := by
  go_enter Tryd.func54, Tryd.ntmps54
  go_wp2
  all_goals go_ret
  all_goals refine ⟨ret_bool ?_, rfl⟩
  all_goals (rw [Bool.eq_iff_iff]; simp [alnumB]; try omega)

theorem enc_eq (r : Int) (hr : rightB r = true) : Utf8.encode r = ⟨(Lib.encodeRune r).toArray⟩ := by
  have h0 := (right_range hr).1
  have hv : Utf8.valid r = true := by
    simp [rightB] at hr
    simp [Utf8.valid]
    omega
  obtain ⟨n, rfl⟩ : ∃ n : Nat, r = n := ⟨r.toNat, by omega⟩
  unfold Utf8.encode
  simp only [hv, if_true, Int.toNat_natCast]
  simp [rightB] at hr
  apply ByteArray.ext
  by_cases h1 : n < 128
  · rw [if_pos h1, Lib.encodeRune, Lib.encodeRuneZ_one (by omega) (by omega)]
    simp
  by_cases h2 : n < 2048
  · rw [if_neg h1, if_pos h2, Lib.encodeRune, Lib.encodeRuneZ_two (by omega) (by omega)]
    simp only [List.map_cons, List.map_nil, Nat.toUInt8_eq]
    rw [show (192 + (n : Int) / 64).toNat = 192 + n / 64 by omega, show (128 + (n : Int) % 64).toNat = 128 + n % 64 by omega]
  by_cases h3 : n < 65536
  · rw [if_neg h1, if_neg h2, if_pos h3, Lib.encodeRune, Lib.encodeRuneZ_three (by omega)]
    simp only [List.map_cons, List.map_nil, Nat.toUInt8_eq]
    rw [show (224 + (n : Int) / 4096).toNat = 224 + n / 4096 by omega, show (128 + (n : Int) / 64 % 64).toNat = 128 + n / 64 % 64 by omega, show (128 + (n : Int) % 64).toNat = 128 + n % 64 by omega]
  · rw [if_neg h1, if_neg h2, if_neg h3, Lib.encodeRune, Lib.encodeRuneZ_four (by omega) (by omega)]
    simp only [List.map_cons, List.map_nil, Nat.toUInt8_eq]
    rw [show (240 + (n : Int) / 262144).toNat = 240 + n / 262144 by omega, show (128 + (n : Int) / 4096 % 64).toNat = 128 + n / 4096 % 64 by omega, show (128 + (n : Int) / 64 % 64).toNat = 128 + n / 64 % 64 by omega, show (128 + (n : Int) % 64).toNat = 128 + n % 64 by omega]

theorem alnum_right {r : Int} (h : alnumB r = true) : rightB r = true := by
  simp [alnumB] at h
  simp [rightB]
  omega

theorem quote_len (r : Int) (h0 : 0 ≤ r) (h1 : r ≤ 1114111) : (quoteP r).length ≤ 10 := by
  unfold quoteP
  split
  · have : (Lib.encodeRune r).length ≤ 4 := by rw [← Lib.runeCells_length]; exact (Lib.runeCells_le r).2
    omega
  · have := hexL_length 5 r.toNat (by omega)
    simp; omega

theorem quote_not {r : Int} (h : ¬(alnumB r = true ∨ (126 < r ∧ rightB r = true))) : r < 48 ∨ (57 < r ∧ r < 65) ∨ (90 < r ∧ r < 97) ∨ (122 < r ∧ r ≤ 126) ∨ (126 < r ∧ rightB r = false) := by
  simp [alnumB] at h
  by_cases h126 : 126 < r
  · have := h.2 h126
    simp [h126, this]
  · omega

set_option maxRecDepth 100000 in
set_option maxHeartbeats 1600000 in
theorem setsyn_quote (r : Int) (h0 : 0 ≤ r) (h1 : r ≤ 1114111) (w : World) (hd : w.cell? ⟨5, 15, none⟩ = some (.int .u8 4)) :
    Calls Tryd.prog 20 #[.int .i32 r] w fun e w' => e = .returned (.string ⟨(quoteP r).toArray⟩) ∧ Below w.heap.size w w' := by
  by_cases hq : alnumB r = true ∨ (126 < r ∧ rightB r = true)
  · have hP : quoteP r = Lib.encodeRune r := if_pos hq
    rw [hP, ← enc_eq r (hq.elim alnum_right (·.2))]
    clear hP
    have hq2 : (48 ≤ r ∧ r ≤ 57) ∨ (65 ≤ r ∧ r ≤ 90) ∨ (97 ≤ r ∧ r ≤ 122) ∨ (126 < r ∧ rightB r = true) := by simpa [alnumB, or_assoc] using hq
    clear hq
    rcases hq2 with ⟨h2, h3⟩ | ⟨h2, h3⟩ | ⟨h2, h3⟩ | ⟨h2, h3⟩
    all_goals
      go_enter Tryd.func20, Tryd.ntmps20
      go_wp2_with (go_at_call 46; refine (runes_right _ _).mono ?_; rintro e w' ⟨rfl, rfl⟩)
      go_ret
      exact ⟨rfl, Below.refl _ _⟩
  · have hP : quoteP r = [92, 117, 123] ++ hexL r.toNat ++ [125] := if_neg hq
    have hq2 := quote_not hq
    rw [hP, ← ba_append, ← ba_append]
    clear hq hP
    obtain ⟨n, rfl⟩ : ∃ n : Nat, r = n := ⟨r.toNat, by omega⟩
    rw [Int.toNat_natCast]
    have hX := hexL_length 5 n (by omega)
    have hc : n < 16777216 := by omega
    have hR : rightB n = false → ∀ w, Calls Tryd.prog 46 #[.int .i32 n] w fun e w' => e = .returned (.bool false) ∧ w = w' := fun h w => by
      have := runes_right n w
      rwa [h] at this
    rcases hq2 with h2 | ⟨h2, h3⟩ | ⟨h2, h3⟩ | ⟨h2, h3⟩ | ⟨h2, h3⟩
    all_goals
      first
        | (have H3 := Lib.hid (hR h3); clear h3)
        | skip
      clear hR
      go_enter Tryd.func20, Tryd.ntmps20
      go_wp2_with (go_at_call 46; refine (H3.out _).mono ?_; rintro e w' ⟨rfl, rfl⟩)
      refine (strconv_int n hc _ hd).mono ?_
      rintro e w' ⟨rfl, hb⟩
      go_wp2_with fail
      go_ret
      exact ⟨rfl, hb⟩

set_option maxRecDepth 100000 in
set_option maxHeartbeats 1600000 in
theorem ref_quote (r : Int) (h0 : 0 ≤ r) (h1 : r ≤ 1114111) (w : World) :
    Calls Tryd.prog 33 #[.int .i32 r] w fun e w' => e = .returned (.string ⟨(quoteP r).toArray⟩) ∧ Below w.heap.size w w' := by
  by_cases hq : alnumB r = true ∨ (126 < r ∧ rightB r = true)
  · have hP : quoteP r = Lib.encodeRune r := if_pos hq
    have hrr : rightB r = true := hq.elim alnum_right (·.2)
    rw [hP]
    clear hP
    have hq2 : (alnumB r = true) ∨ (alnumB r = false ∧ 127 ≤ r) := by
      rcases hq with h | h
      · exact .inl h
      · cases h2 : alnumB r
        · exact .inr ⟨rfl, by omega⟩
        · exact .inl rfl
    clear hq
    rcases hq2 with ha | ⟨ha, h3⟩
    all_goals
      go_enter Tryd.func33, Tryd.ntmps33
      go_wp2_with (first | (go_at_call 54; refine (ref_alnum _ _).mono ?_; rintro e w' ⟨rfl, rfl⟩) | (go_at_call 55; refine (ref_right _ _).mono ?_; rintro e w' ⟨rfl, rfl⟩))
      refine (ref_bytes r hrr _).mono ?_
      rintro e w2 ⟨v, rfl, hv, hb⟩
      obtain ⟨A4, c4, rfl, _⟩ := own_form hv
      have hcv := own_bytes_string hv rfl
      clear hv
      go_wp2_with fail
      go_ret
      exact ⟨rfl, hb⟩
  · have hP : quoteP r = [92, 117, 123] ++ hexL r.toNat ++ [125] := if_neg hq
    have hq2 := quote_not hq
    have ha : alnumB r = false := by
      cases h : alnumB r
      · rfl
      · exact absurd (.inl h) hq
    rw [hP, ← ba_append, ← ba_append]
    clear hq hP
    obtain ⟨n, rfl⟩ : ∃ n : Nat, r = n := ⟨r.toNat, by omega⟩
    rw [Int.toNat_natCast]
    have hX := hexL_length 5 n (by omega)
    have hc : n < 16777216 := by omega
    have hq3 : ((n : Int) < 127) ∨ (127 ≤ (n : Int) ∧ rightB n = false) := by
      by_cases h126 : 126 < (n : Int)
      · rcases hq2 with h | h | h | h | h
        · omega
        · omega
        · omega
        · omega
        · exact .inr ⟨by omega, h.2⟩
      · exact .inl (by omega)
    clear hq2
    rcases hq3 with h3 | ⟨h2, h3⟩
    all_goals
      go_enter Tryd.func33, Tryd.ntmps33
      go_wp2_with (first | (go_at_call 54; refine (ref_alnum _ _).mono ?_; rintro e w' ⟨rfl, rfl⟩) | (go_at_call 55; refine (ref_right _ _).mono ?_; rintro e w' ⟨rfl, rfl⟩))
      refine (ref_hex 5 n (by simpa using hc) hc _).mono ?_
      rintro e w' ⟨rfl, rfl⟩
      go_wp2_with fail
      go_ret
      exact ⟨rfl, Below.refl _ _⟩

end Go.Proofs.YtdfljicijfceeaaDoor
