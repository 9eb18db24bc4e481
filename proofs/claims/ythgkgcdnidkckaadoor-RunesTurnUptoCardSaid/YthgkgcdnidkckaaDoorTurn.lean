/- What is encoded is decoded: right runes come back; a text of which no byte is spoilt comes back, and no other one. Plain facts; no program. -/
import Derived.Test.YthgkgcdnidkckaaDoorSpoilt
import Derived.Test.YthgkgcdnidkckaaDoorEncode
import Derived.Lib.MapLaws
namespace Go.Proofs.YthgkgcdnidkckaaDoor

theorem u8_toNat (z : Int) (_h0 : 0 ≤ z) (h1 : z < 256) : (z.toNat.toUInt8).toNat = z.toNat := by
  simp [Nat.toUInt8, UInt8.toNat_ofNat']
  omega

/-- One right rune alone. -/
theorem decode_one (r : Int) (h : rightB r = true) : Utf8.decode ⟨(Lib.encodeRune r).toArray⟩ 0 = (r.toNat, (Lib.encodeRune r).length) := by
  have hrr := right_range h
  simp [rightB] at h
  have key : Lib.decodeL (Lib.encodeRune r) = (r.toNat, (Lib.encodeRune r).length) := by
    rw [Lib.decodeL_N]
    unfold Lib.encodeRune
    by_cases h1 : r ≤ 127
    · rw [Lib.encodeRuneZ_one hrr.1 h1]
      simp only [List.map_cons, List.map_nil, List.length_cons, List.length_nil, List.getD_cons_zero]
      rw [u8_toNat r (by omega) (by omega)]
      unfold Lib.decodeN
      rw [if_pos (by omega)]
    by_cases h2 : r ≤ 2047
    · rw [Lib.encodeRuneZ_two (by omega) h2]
      simp only [List.map_cons, List.map_nil, List.length_cons, List.length_nil, List.getD_cons_zero, List.getD_cons_succ]
      rw [u8_toNat _ (by omega) (by omega), u8_toNat (128 + r % 64) (by omega) (by omega)]
      unfold Lib.decodeN
      rw [if_neg (by omega), if_pos (by omega), if_pos (by omega)]
      congr 1
      omega
    by_cases h3 : r ≤ 65535
    · rw [Lib.encodeRuneZ_three (by omega)]
      simp only [List.map_cons, List.map_nil, List.length_cons, List.length_nil, List.getD_cons_zero, List.getD_cons_succ]
      rw [u8_toNat _ (by omega) (by omega), u8_toNat (128 + r / 64 % 64) (by omega) (by omega), u8_toNat (128 + r % 64) (by omega) (by omega)]
      unfold Lib.decodeN
      rw [if_neg (by omega), if_neg (by omega), if_pos (by omega), if_pos (by omega)]
      congr 1
      omega
    · rw [Lib.encodeRuneZ_four (by omega) (by omega)]
      simp only [List.map_cons, List.map_nil, List.length_cons, List.length_nil, List.getD_cons_zero, List.getD_cons_succ]
      rw [u8_toNat _ (by omega) (by omega), u8_toNat (128 + r / 4096 % 64) (by omega) (by omega), u8_toNat (128 + r / 64 % 64) (by omega) (by omega), u8_toNat (128 + r % 64) (by omega) (by omega)]
      unfold Lib.decodeN
      rw [if_neg (by omega), if_neg (by omega), if_neg (by omega), if_pos (by omega), if_pos (by omega)]
      congr 1
      omega
  exact key

theorem enc_pos (r : Int) : 1 ≤ (Lib.encodeRune r).length := by
  rw [← Lib.runeCells_length]; exact (Lib.runeCells_le r).1
theorem mk_size (l : List UInt8) : (⟨l.toArray⟩ : ByteArray).size = l.length := by simp [ByteArray.size]

theorem one_rune (r : Int) (h : rightB r = true) : runesOf ⟨(Lib.encodeRune r).toArray⟩ 0 = [r] ∧ spoilt ⟨(Lib.encodeRune r).toArray⟩ 0 = 0 := by
  have hd := decode_one r h
  have hp := enc_pos r
  have hr := right_range h
  have hsz := mk_size (Lib.encodeRune r)
  rw [runesOf_step _ _ (by omega), spoilt_step _ _ (by omega)]
  unfold badAt
  rw [hd]
  dsimp only
  rw [runesOf_end _ _ (by omega), spoilt_end _ _ (by omega)]
  refine ⟨by rw [Int.toNat_of_nonneg hr.1], ?_⟩
  have : (r.toNat == 65533 && (Lib.encodeRune r).length == 1) = false := by
    by_cases hc : r = 65533
    · subst hc; decide +kernel
    · have : (r.toNat == 65533) = false := by rw [beq_eq_false_iff_ne]; omega
      rw [this]; rfl
  rw [this]
  rfl

theorem mk_append (a b : List UInt8) : (⟨(a ++ b).toArray⟩ : ByteArray) = ⟨a.toArray⟩ ++ ⟨b.toArray⟩ := by
  apply ByteArray.ext
  simp

/-- THE FIRST PLAIN LAW: right runes come back. -/
theorem turn_runes (l : List Int) (h : l.all rightB = true) : runesOf ⟨(bytesOf l).toArray⟩ 0 = l ∧ spoilt ⟨(bytesOf l).toArray⟩ 0 = 0 := by
  induction l with
  | nil => rw [runesOf_end _ _ (by simp [bytesOf, ByteArray.size]), spoilt_end _ _ (by simp [bytesOf, ByteArray.size])]; exact ⟨rfl, rfl⟩
  | cons r l ih =>
    simp only [List.all_cons, Bool.and_eq_true] at h
    obtain ⟨h1, h2⟩ := ih h.2
    obtain ⟨h3, h4⟩ := one_rune r h.1
    have e : bytesOf (r :: l) = Lib.encodeRune r ++ bytesOf l := by simp [bytesOf]
    rw [e, mk_append]
    obtain ⟨j1, j2⟩ := join_law ⟨(Lib.encodeRune r).toArray⟩ ⟨(bytesOf l).toArray⟩ _ 0 (Nat.le_refl _) (Nat.zero_le _) h4
    rw [j1, j2, h3, h1, h2]
    exact ⟨rfl, rfl⟩

theorem decode_right_rune (s : ByteArray) (p : Nat) : rightB ((Utf8.decode s p).1 : Int) = true := by
  rw [Lib.decode_at]
  have key : ∀ n b0 b1 b2 b3, rightB ((Lib.decodeN n b0 b1 b2 b3).1 : Int) = true := by
    intro n b0 b1 b2 b3
    unfold Lib.decodeN
    repeat' split
    all_goals simp [rightB]
    all_goals omega
  exact key _ _ _ _ _

theorem runesOf_right (s : ByteArray) : ∀ (f p : Nat), s.size - p ≤ f → (runesOf s p).all rightB = true := by
  intro f
  induction f with
  | zero => intro p h; rw [runesOf_end s p (by omega)]; rfl
  | succ f ih =>
    intro p h
    by_cases hp : p < s.size
    · have hd := dec_bound s p hp
      rw [runesOf_step s p hp, List.all_cons, decode_right_rune s p, ih _ (by omega)]
      rfl
    · rw [runesOf_end s p hp]; rfl

theorem whole_bytes (s : ByteArray) : ∀ (f p : Nat), s.size - p ≤ f → p ≤ s.size → spoilt s p = 0 → bytesOf (runesOf s p) = s.data.toList.drop p := by
  have hlen : s.data.toList.length = s.size := by rw [Array.length_toList]; rfl
  intro f
  induction f with
  | zero =>
    intro p h hp _
    rw [runesOf_end s p (by omega), List.drop_of_length_le (by omega)]
    rfl
  | succ f ih =>
    intro p h hp h0
    by_cases hlt : p < s.size
    · have hd := dec_bound s p hlt
      rw [spoilt_step s p hlt] at h0
      have hb : badAt s p = false := by
        cases hb : badAt s p
        · rfl
        · rw [hb] at h0; simp at h0
      have hI := ih (p + (Utf8.decode s p).2) (by omega) (by omega) (by omega)
      have hdl := Lib.decodeL_drop s p
      have henc := Lib.encode_decode (s.data.toList.drop p) (by intro e; have := congrArg List.length e; simp at this; omega) (by
        rw [hdl]
        rintro ⟨h1, h2⟩
        unfold badAt at hb
        rw [h1, h2] at hb
        simp at hb)
      rw [hdl] at henc
      rw [runesOf_step s p hlt]
      have e : bytesOf (((Utf8.decode s p).1 : Int) :: runesOf s (p + (Utf8.decode s p).2)) = Lib.encodeRune ((Utf8.decode s p).1 : Int) ++ bytesOf (runesOf s (p + (Utf8.decode s p).2)) := by simp [bytesOf]
      rw [e, henc, hI, ← List.drop_drop, List.take_append_drop]
    · rw [runesOf_end s p hlt, List.drop_of_length_le (by omega)]
      rfl

/-- THE SECOND PLAIN LAW: a text comes back just where no byte is spoilt. -/
theorem turn_text (s : ByteArray) : encP (runesOf s 0) = (⟨(bytesOf (runesOf s 0)).toArray⟩, 0) ∧ ((⟨(bytesOf (runesOf s 0)).toArray⟩ : ByteArray) = s ↔ spoilt s 0 = 0) := by
  have hr := runesOf_right s s.size 0 (by omega)
  refine ⟨by unfold encP; rw [hr]; rfl, ⟨fun h => ?_, fun h => ?_⟩⟩
  · have := (turn_runes _ hr).2
    rw [h] at this
    exact this
  · rw [whole_bytes s s.size 0 (by omega) (by omega) h]
    simp

end Go.Proofs.YthgkgcdnidkckaaDoor
