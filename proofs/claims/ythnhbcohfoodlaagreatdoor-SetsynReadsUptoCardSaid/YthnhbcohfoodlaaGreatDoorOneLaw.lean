/- The rune that begins at a byte, class by class: plain facts on the model's own decoder. No program. -/
import Derived.Test.YthnhbcohfoodlaaGreatDoorSpoilt
import Derived.Test.YthnhbcohfoodlaaGreatDoorRight
namespace Go.Proofs.YthnhbcohfoodlaaGreatDoor
open Go.RowKit

def byteAt (s : ByteArray) (p : Nat) : Int := ((s.get! p).toNat : Int)
theorem byteAt_bd (s : ByteArray) (p : Nat) : 0 ≤ byteAt s p ∧ byteAt s p < 256 := by
  unfold byteAt
  have := (s.get! p).toNat_lt
  omega
theorem byteAt_eq (s : ByteArray) (p : Nat) (h : p < s.size) : ((s[p]'h).toNat : Int) = byteAt s p := by
  unfold byteAt
  have e := get_at s p h
  rw [Nat.add_zero] at e
  rw [e]

/-- Head, mask, bytes, least rune of the three classes of lead bytes. -/
def clsHead (j : Nat) : Int := if j = 0 then 192 else if j = 1 then 224 else 240
def clsMask (j : Nat) : Int := if j = 0 then 224 else if j = 1 then 240 else 248
def clsN (j : Nat) : Nat := if j = 0 then 2 else if j = 1 then 3 else 4
def clsLeast (j : Nat) : Int := if j = 0 then 128 else if j = 1 then 2048 else 65536
def clsIs (j : Nat) (c : Int) : Bool := decide (clsHead j ≤ c) && decide (c < clsHead j + (if j = 0 then 32 else if j = 1 then 16 else 8))

theorem cls_bits (j : Nat) (hj : j < 3) (c : Int) (h0 : 0 ≤ c) (h1 : c < 256) : (bits BinOp.and IntKind.i64 c (clsMask j) != clsHead j) = !clsIs j c := by
  have key : ∀ (j : Fin 3) (c : Fin 256), (bits BinOp.and IntKind.i64 ((c.val : Nat) : Int) (clsMask j.val) != clsHead j.val) = !clsIs j.val ((c.val : Nat) : Int) := by decide +kernel
  have := key ⟨j, hj⟩ ⟨c.toNat, by omega⟩
  simpa [Int.toNat_of_nonneg h0] using this

/-- What has been read of a rune behind k more bytes. -/
def part (s : ByteArray) (p : Nat) (x0 : Int) : Nat → Int
  | 0 => x0
  | k + 1 => part s p x0 k * 64 + byteAt s (p + (k + 1)) % 64
theorem part_bd (s : ByteArray) (p : Nat) (x0 : Int) (h0 : 0 ≤ x0) (h1 : x0 < 32) (k : Nat) (hk : k ≤ 3) : 0 ≤ part s p x0 k ∧ part s p x0 k < 8388608 := by
  have b1 := byteAt_bd s (p + 1)
  have b2 := byteAt_bd s (p + 2)
  have b3 := byteAt_bd s (p + 3)
  match k, hk with
  | 0, _ => simp only [part]; omega
  | 1, _ => simp only [part]; omega
  | 2, _ => simp only [part]; omega
  | 3, _ => simp only [part]; omega

/-- What One answers. -/
def oneP (s : ByteArray) (p : Nat) : Int × Int := if badAt s p then (0, 0) else (((Utf8.decode s p).1 : Int), ((Utf8.decode s p).2 : Int))

theorem oneP_of (s : ByteArray) (p : Nat) {r k : Nat} (h : Lib.decodeN (s.size - p) (s.get! p).toNat (s.get! (p + 1)).toNat (s.get! (p + 2)).toNat (s.get! (p + 3)).toNat = (r, k)) :
    oneP s p = if r = 65533 ∧ k = 1 then (0, 0) else ((r : Int), (k : Int)) := by
  unfold oneP badAt
  rw [Lib.decode_at, h]
  simp

theorem one_ascii (s : ByteArray) (p : Nat) (hc : byteAt s p < 128) : oneP s p = (byteAt s p, 1) := by
  unfold byteAt at *
  rw [oneP_of s p (r := (s.get! p).toNat) (k := 1) (by unfold Lib.decodeN; rw [if_pos (by omega)]), if_neg (by omega)]
  rfl

set_option maxRecDepth 10000 in
theorem one_none (s : ByteArray) (p : Nat) (hc : 128 ≤ byteAt s p) (h : ∀ j, j < 3 → clsIs j (byteAt s p) = true → ¬ p + clsN j ≤ s.size) : oneP s p = (0, 0) := by
  have h0 := h 0 (by omega)
  have h1 := h 1 (by omega)
  have h2 := h 2 (by omega)
  simp [clsIs, clsHead, clsN] at h0 h1 h2
  unfold byteAt at *
  rw [oneP_of s p (r := 65533) (k := 1) (by
    unfold Lib.decodeN
    rw [if_neg (by omega), if_neg (by omega), if_neg (by omega), if_neg (by omega)]), if_pos (by omega)]

set_option maxRecDepth 10000 in
theorem one_cut (s : ByteArray) (p j i : Nat) (hj : j < 3) (hc : clsIs j (byteAt s p) = true) (hi : 1 ≤ i) (hin : i < clsN j) (hb : byteAt s (p + i) / 64 ≠ 2) : oneP s p = (0, 0) := by
  have key : i = 1 ∨ i = 2 ∨ i = 3 := by
    have : clsN j ≤ 4 := by
      unfold clsN
      split
      · omega
      · split <;> omega
    omega
  simp [clsIs, clsHead] at hc
  unfold byteAt at *
  rw [oneP_of s p (r := 65533) (k := 1) ?_, if_pos (by omega)]
  unfold Lib.decodeN
  match j, hj with
  | 0, _ =>
    simp [clsN] at hin hc
    obtain rfl : i = 1 := by omega
    rw [if_neg (by omega), if_neg (by omega), if_neg (by omega), if_neg (by omega)]
  | 1, _ =>
    simp [clsN] at hin hc
    rcases key with rfl | rfl | rfl
    · rw [if_neg (by omega), if_neg (by omega), if_neg (by omega), if_neg (by omega)]
    · rw [if_neg (by omega), if_neg (by omega), if_neg (by omega), if_neg (by omega)]
    · omega
  | 2, _ =>
    simp [clsN] at hin hc
    rcases key with rfl | rfl | rfl
    · rw [if_neg (by omega), if_neg (by omega), if_neg (by omega), if_neg (by omega)]
    · rw [if_neg (by omega), if_neg (by omega), if_neg (by omega), if_neg (by omega)]
    · rw [if_neg (by omega), if_neg (by omega), if_neg (by omega), if_neg (by omega)]

theorem one_end (s : ByteArray) (p X n : Nat) (least : Int) (P : Int) (hP : P = (X : Int)) (hl : 1 < n)
    (hd : Lib.decodeN (s.size - p) (s.get! p).toNat (s.get! (p + 1)).toNat (s.get! (p + 2)).toNat (s.get! (p + 3)).toNat = if least ≤ (X : Int) ∧ rightB (X : Int) = true then (X, n) else (65533, 1)) :
    oneP s p = if (decide (least ≤ P) && rightB P) = true then (P, (n : Int)) else (0, 0) := by
  subst hP
  by_cases hv : least ≤ (X : Int) ∧ rightB (X : Int) = true
  · rw [if_pos hv] at hd
    rw [oneP_of s p hd, if_neg (by omega), if_pos (by simp [hv.1, hv.2])]
  · rw [if_neg hv] at hd
    rw [oneP_of s p hd, if_pos (by omega), if_neg (by simpa using hv)]

set_option maxRecDepth 10000 in
theorem one_whole (s : ByteArray) (p j : Nat) (hj : j < 3) (hc : clsIs j (byteAt s p) = true) (hsz : p + clsN j ≤ s.size) (hb : ∀ i, 1 ≤ i → i < clsN j → byteAt s (p + i) / 64 = 2) :
    oneP s p = if (decide (clsLeast j ≤ part s p (byteAt s p - clsHead j) (clsN j - 1)) && rightB (part s p (byteAt s p - clsHead j) (clsN j - 1))) = true then (part s p (byteAt s p - clsHead j) (clsN j - 1), (clsN j : Int)) else (0, 0) := by
  have g0 := (s.get! p).toNat_lt
  have g1 := (s.get! (p + 1)).toNat_lt
  have g2 := (s.get! (p + 2)).toNat_lt
  have g3 := (s.get! (p + 3)).toNat_lt
  match j, hj with
  | 0, _ =>
    have h1 : byteAt s (p + 1) / 64 = 2 := hb 1 (by omega) (by decide)
    have hsz2 : p + 2 ≤ s.size := hsz
    have hc2 : 192 ≤ byteAt s p ∧ byteAt s p < 224 := by simpa [clsIs, clsHead] using hc
    clear hb hc hsz
    refine one_end s p ((s.get! p).toNat % 32 * 64 + (s.get! (p + 1)).toNat % 64) 2 128 _ ?_ (by omega) ?_
    · show (byteAt s p - 192) * 64 + byteAt s (p + 1) % 64 = _
      unfold byteAt at *
      omega
    · unfold byteAt at *
      unfold Lib.decodeN
      rw [if_neg (by omega), if_pos (by omega)]
      by_cases hv : 128 ≤ (s.get! p).toNat % 32 * 64 + (s.get! (p + 1)).toNat % 64
      · rw [if_pos (by omega), if_pos (by simp [rightB]; omega)]
      · rw [if_neg (by omega), if_neg (by simp [rightB]; omega)]
  | 1, _ =>
    have h1 : byteAt s (p + 1) / 64 = 2 := hb 1 (by omega) (by decide)
    have h2 : byteAt s (p + 2) / 64 = 2 := hb 2 (by omega) (by decide)
    have hsz2 : p + 3 ≤ s.size := hsz
    have hc2 : 224 ≤ byteAt s p ∧ byteAt s p < 240 := by simpa [clsIs, clsHead] using hc
    clear hb hc hsz
    refine one_end s p ((s.get! p).toNat % 16 * 4096 + (s.get! (p + 1)).toNat % 64 * 64 + (s.get! (p + 2)).toNat % 64) 3 2048 _ ?_ (by omega) ?_
    · show ((byteAt s p - 224) * 64 + byteAt s (p + 1) % 64) * 64 + byteAt s (p + 2) % 64 = _
      unfold byteAt at *
      omega
    · unfold byteAt at *
      unfold Lib.decodeN
      rw [if_neg (by omega), if_neg (by omega), if_pos (by omega)]
      generalize (s.get! p).toNat % 16 * 4096 + (s.get! (p + 1)).toNat % 64 * 64 + (s.get! (p + 2)).toNat % 64 = X
      by_cases hv : 2048 ≤ X ∧ (X < 55296 ∨ 57344 ≤ X ∧ X ≤ 1114111)
      · rw [if_pos (by omega), if_pos (by simp [rightB]; omega)]
      · rw [if_neg (by omega), if_neg (by simp [rightB]; omega)]
  | 2, _ =>
    have h1 : byteAt s (p + 1) / 64 = 2 := hb 1 (by omega) (by decide)
    have h2 : byteAt s (p + 2) / 64 = 2 := hb 2 (by omega) (by decide)
    have h3 : byteAt s (p + 3) / 64 = 2 := hb 3 (by omega) (by decide)
    have hsz2 : p + 4 ≤ s.size := hsz
    have hc2 : 240 ≤ byteAt s p ∧ byteAt s p < 248 := by simpa [clsIs, clsHead] using hc
    clear hb hc hsz
    refine one_end s p ((s.get! p).toNat % 8 * 262144 + (s.get! (p + 1)).toNat % 64 * 4096 + (s.get! (p + 2)).toNat % 64 * 64 + (s.get! (p + 3)).toNat % 64) 4 65536 _ ?_ (by omega) ?_
    · show (((byteAt s p - 240) * 64 + byteAt s (p + 1) % 64) * 64 + byteAt s (p + 2) % 64) * 64 + byteAt s (p + 3) % 64 = _
      unfold byteAt at *
      omega
    · unfold byteAt at *
      unfold Lib.decodeN
      rw [if_neg (by omega), if_neg (by omega), if_neg (by omega), if_pos (by omega)]
      generalize (s.get! p).toNat % 8 * 262144 + (s.get! (p + 1)).toNat % 64 * 4096 + (s.get! (p + 2)).toNat % 64 * 64 + (s.get! (p + 3)).toNat % 64 = X
      by_cases hv : 65536 ≤ X ∧ (X < 55296 ∨ 57344 ≤ X ∧ X ≤ 1114111)
      · rw [if_pos (by omega), if_pos (by simp [rightB]; omega)]
      · rw [if_neg (by omega), if_neg (by simp [rightB]; omega)]

end Go.Proofs.YthnhbcohfoodlaaGreatDoor
