/- Spoilt + RunesStop -/
import Derived.Test.YthnhbcohfoodlaaGreatDoorZk1
import Derived.Lib.RuneCountTail
namespace Go.Proofs.YthnhbcohfoodlaaGreatDoor
def badAt (s : ByteArray) (p : Nat) : Bool := (Utf8.decode s p).1 == 65533 && (Utf8.decode s p).2 == 1
def spoiltF (s : ByteArray) : Nat → Nat → Nat
  | 0, _ => 0
  | f + 1, p => if p < s.size then (if badAt s p then 1 else 0) + spoiltF s f (p + (Utf8.decode s p).2) else 0
def spoilt (s : ByteArray) (p : Nat) : Nat := spoiltF s (s.size - p) p
theorem spoiltF_more (s : ByteArray) : ∀ (f g p : Nat), s.size - p ≤ f → f ≤ g → spoiltF s g p = spoiltF s f p := by
  intro f
  induction f with
  | zero =>
    intro g p h _
    cases g with
    | zero => rfl
    | succ g => simp only [spoiltF]; rw [if_neg (by omega)]
  | succ f ih =>
    intro g p h hg
    obtain ⟨g, rfl⟩ : ∃ g', g = g' + 1 := ⟨g - 1, by omega⟩
    simp only [spoiltF]
    by_cases hp : p < s.size
    · have := dec_bound s p hp
      rw [if_pos hp, if_pos hp, ih g _ (by omega) (by omega)]
    · rw [if_neg hp, if_neg hp]
theorem spoilt_step (s : ByteArray) (p : Nat) (h : p < s.size) : spoilt s p = (if badAt s p then 1 else 0) + spoilt s (p + (Utf8.decode s p).2) := by
  unfold spoilt
  obtain ⟨f, hf⟩ : ∃ f, s.size - p = f + 1 := ⟨s.size - p - 1, by omega⟩
  have := dec_bound s p h
  rw [hf]
  simp only [spoiltF]
  rw [if_pos h, spoiltF_more s (s.size - (p + (Utf8.decode s p).2)) f _ (Nat.le_refl _) (by omega)]
theorem spoilt_end (s : ByteArray) (p : Nat) (h : ¬ p < s.size) : spoilt s p = 0 := by
  unfold spoilt
  rw [show s.size - p = 0 by omega]
  rfl
theorem decodeN_more (n m b0 b1 b2 b3 c1 c2 c3 : Nat) (hnm : n ≤ m) (h1 : 1 < n → c1 = b1) (h2 : 2 < n → c2 = b2) (h3 : 3 < n → c3 = b3)
    (hg : ¬ (Lib.decodeN n b0 b1 b2 b3 = (65533, 1))) : Lib.decodeN m b0 c1 c2 c3 = Lib.decodeN n b0 b1 b2 b3 := by
  by_cases k0 : b0 < 128
  · simp [Lib.decodeN, k0]
  by_cases k1 : b0 / 32 = 6 ∧ (1 < n ∧ b1 / 64 = 2)
  · obtain ⟨k1, k2, k3⟩ := k1
    have e1 := h1 k2
    subst e1
    simp [Lib.decodeN, k0, k1, k2, k3, show 1 < m by omega]
  by_cases k2 : b0 / 16 = 14 ∧ (1 < n ∧ b1 / 64 = 2) ∧ (2 < n ∧ b2 / 64 = 2)
  · obtain ⟨k2, ⟨k3, k4⟩, k5, k6⟩ := k2
    have e1 := h1 k3
    have e2 := h2 k5
    subst e1 e2
    simp [Lib.decodeN, k0, k2, k3, k4, k5, k6, show 1 < m by omega, show 2 < m by omega, show ¬ b0 / 32 = 6 by omega]
  by_cases k3 : b0 / 8 = 30 ∧ (1 < n ∧ b1 / 64 = 2) ∧ (2 < n ∧ b2 / 64 = 2) ∧ (3 < n ∧ b3 / 64 = 2)
  · obtain ⟨k3, ⟨k4, k5⟩, ⟨k6, k7⟩, k8, k9⟩ := k3
    have e1 := h1 k4
    have e2 := h2 k6
    have e3 := h3 k8
    subst e1 e2 e3
    simp [Lib.decodeN, k0, k3, k4, k5, k6, k7, k8, k9, show 1 < m by omega, show 2 < m by omega, show 3 < m by omega, show ¬ b0 / 32 = 6 by omega, show ¬ b0 / 16 = 14 by omega]
  · exact absurd (by unfold Lib.decodeN; rw [if_neg k0, if_neg k1, if_neg k2, if_neg k3]) hg
theorem get_append_left (s t : ByteArray) (i : Nat) (h : i < s.size) : (s ++ t).get! i = s.get! i := by
  rw [← Lib.getD_get!', ← Lib.getD_get!']
  have e : (s ++ t).data.toList = s.data.toList ++ t.data.toList := by simp
  have hs : s.data.toList.length = s.size := by rw [Array.length_toList]; rfl
  rw [e, List.getD, List.getD, List.getElem?_append_left (by omega)]
theorem get_append_right (s t : ByteArray) (i : Nat) : (s ++ t).get! (s.size + i) = t.get! i := by
  rw [← Lib.getD_get!', ← Lib.getD_get!']
  have e : (s ++ t).data.toList = s.data.toList ++ t.data.toList := by simp
  have hs : s.data.toList.length = s.size := by rw [Array.length_toList]; rfl
  rw [e, List.getD, List.getD, List.getElem?_append_right (by omega), hs, Nat.add_sub_cancel_left]
theorem decode_left (s t : ByteArray) (p : Nat) (h : p < s.size) (hb : badAt s p = false) : Utf8.decode (s ++ t) p = Utf8.decode s p := by
  have hsz : (s ++ t).size = s.size + t.size := ByteArray.size_append
  rw [Lib.decode_at, Lib.decode_at, get_append_left s t p h]
  apply decodeN_more
  · omega
  · intro _; rw [get_append_left s t (p + 1) (by omega)]
  · intro _; rw [get_append_left s t (p + 2) (by omega)]
  · intro _; rw [get_append_left s t (p + 3) (by omega)]
  · rw [← Lib.decode_at]
    intro e
    unfold badAt at hb
    rw [e] at hb
    simp at hb
theorem decode_right (s t : ByteArray) (q : Nat) : Utf8.decode (s ++ t) (s.size + q) = Utf8.decode t q := by
  have hsz : (s ++ t).size = s.size + t.size := ByteArray.size_append
  rw [Lib.decode_at, Lib.decode_at, get_append_right, Nat.add_assoc, get_append_right, Nat.add_assoc, get_append_right, Nat.add_assoc, get_append_right]
  congr 1
  omega
theorem right_of (s t : ByteArray) : ∀ (f q : Nat), t.size - q ≤ f → runesOf (s ++ t) (s.size + q) = runesOf t q ∧ spoilt (s ++ t) (s.size + q) = spoilt t q := by
  have hsz : (s ++ t).size = s.size + t.size := ByteArray.size_append
  intro f
  induction f with
  | zero =>
    intro q h
    rw [runesOf_end _ _ (by omega), runesOf_end _ _ (by omega), spoilt_end _ _ (by omega), spoilt_end _ _ (by omega)]
    exact ⟨rfl, rfl⟩
  | succ f ih =>
    intro q h
    by_cases hq : q < t.size
    · have hd := dec_bound t q hq
      have := ih (q + (Utf8.decode t q).2) (by omega)
      rw [runesOf_step _ _ (by omega), runesOf_step t q hq, spoilt_step _ _ (by omega), spoilt_step t q hq]
      unfold badAt
      rw [decode_right, Nat.add_assoc, this.1, this.2]
      exact ⟨rfl, rfl⟩
    · rw [runesOf_end _ _ (by omega), runesOf_end _ _ (by omega), spoilt_end _ _ (by omega), spoilt_end _ _ (by omega)]
      exact ⟨rfl, rfl⟩
theorem join_law (s t : ByteArray) : ∀ (f p : Nat), s.size - p ≤ f → p ≤ s.size → spoilt s p = 0 → runesOf (s ++ t) p = runesOf s p ++ runesOf t 0 ∧ spoilt (s ++ t) p = spoilt t 0 := by
  have hsz : (s ++ t).size = s.size + t.size := ByteArray.size_append
  have hend := right_of s t t.size 0 (by omega)
  rw [Nat.add_zero] at hend
  intro f
  induction f with
  | zero =>
    intro p h hp _
    obtain rfl : p = s.size := by omega
    rw [runesOf_end s _ (by omega)]
    exact hend
  | succ f ih =>
    intro p h hp h0
    by_cases hlt : p < s.size
    · have hd := dec_bound s p hlt
      rw [spoilt_step s p hlt] at h0
      have hb : badAt s p = false := by
        cases hb : badAt s p
        · rfl
        · rw [hb] at h0; simp at h0
      have := ih (p + (Utf8.decode s p).2) (by omega) (by omega) (by omega)
      have hb2 : badAt (s ++ t) p = false := by unfold badAt; rw [decode_left s t p hlt hb]; exact hb
      rw [runesOf_step _ _ (by omega), runesOf_step s p hlt, spoilt_step _ _ (by omega), decode_left s t p hlt hb, this.1, this.2, hb2]
      simp
    · obtain rfl : p = s.size := by omega
      rw [runesOf_end s _ (by omega)]
      exact hend
end Go.Proofs.YthnhbcohfoodlaaGreatDoor

namespace Go.Proofs.YthnhbcohfoodlaaGreatDoor
theorem decodeN_stop (n m b0 b1 b2 b3 c1 c2 c3 : Nat) (hn : 1 ≤ n) (hnm : n ≤ m) (h1 : 1 < n → c1 = b1) (h2 : 2 < n → c2 = b2) (h3 : 3 < n → c3 = b3)
    (g1 : n = 1 → c1 < 128) (g2 : n = 2 → c2 < 128) (g3 : n = 3 → c3 < 128) : Lib.decodeN m b0 c1 c2 c3 = Lib.decodeN n b0 b1 b2 b3 := by
  by_cases hb : Lib.decodeN n b0 b1 b2 b3 = (65533, 1)
  · by_cases k0 : b0 < 128
    · simp [Lib.decodeN, k0]
    by_cases k1 : b0 / 32 = 6 ∧ (1 < n ∧ b1 / 64 = 2)
    · obtain ⟨k1, k2, k3⟩ := k1
      have e1 := h1 k2
      subst e1
      simp [Lib.decodeN, k0, k1, k2, k3, show 1 < m by omega]
    by_cases k2 : b0 / 16 = 14 ∧ (1 < n ∧ b1 / 64 = 2) ∧ (2 < n ∧ b2 / 64 = 2)
    · obtain ⟨k2, ⟨k3, k4⟩, k5, k6⟩ := k2
      have e1 := h1 k3
      have e2 := h2 k5
      subst e1 e2
      simp [Lib.decodeN, k0, k2, k3, k4, k5, k6, show 1 < m by omega, show 2 < m by omega, show ¬ b0 / 32 = 6 by omega]
    by_cases k3 : b0 / 8 = 30 ∧ (1 < n ∧ b1 / 64 = 2) ∧ (2 < n ∧ b2 / 64 = 2) ∧ (3 < n ∧ b3 / 64 = 2)
    · obtain ⟨k3, ⟨k4, k5⟩, ⟨k6, k7⟩, k8, k9⟩ := k3
      have e1 := h1 k4
      have e2 := h2 k6
      have e3 := h3 k8
      subst e1 e2 e3
      simp [Lib.decodeN, k0, k3, k4, k5, k6, k7, k8, k9, show 1 < m by omega, show 2 < m by omega, show 3 < m by omega, show ¬ b0 / 32 = 6 by omega, show ¬ b0 / 16 = 14 by omega]
    · have c1' : (1 < m ∧ c1 / 64 = 2) → (1 < n ∧ b1 / 64 = 2) := by
        rintro ⟨_, h⟩
        rcases Nat.lt_or_ge 1 n with hl | hl
        · exact ⟨hl, by rw [← h1 hl]; exact h⟩
        · have := g1 (by omega)
          omega
      have c2' : (1 < m ∧ c1 / 64 = 2) → (2 < m ∧ c2 / 64 = 2) → (2 < n ∧ b2 / 64 = 2) := by
        intro hh
        rintro ⟨_, h⟩
        have := (c1' hh).1
        rcases Nat.lt_or_ge 2 n with hl | hl
        · exact ⟨hl, by rw [← h2 hl]; exact h⟩
        · have := g2 (by omega)
          omega
      have c3' : (1 < m ∧ c1 / 64 = 2) → (2 < m ∧ c2 / 64 = 2) → (3 < m ∧ c3 / 64 = 2) → (3 < n ∧ b3 / 64 = 2) := by
        intro hh hi
        rintro ⟨_, h⟩
        have := (c2' hh hi).1
        rcases Nat.lt_or_ge 3 n with hl | hl
        · exact ⟨hl, by rw [← h3 hl]; exact h⟩
        · have := g3 (by omega)
          omega
      rw [hb]
      unfold Lib.decodeN
      rw [if_neg k0, if_neg (fun h => k1 ⟨h.1, c1' h.2⟩), if_neg (fun h => k2 ⟨h.1, c1' h.2.1, c2' h.2.1 h.2.2⟩), if_neg (fun h => k3 ⟨h.1, c1' h.2.1, c2' h.2.1 h.2.2.1, c3' h.2.1 h.2.2.1 h.2.2.2⟩)]
  · exact decodeN_more n m b0 b1 b2 b3 c1 c2 c3 hnm h1 h2 h3 hb
theorem decode_stop (s t : ByteArray) (p : Nat) (h : p < s.size) (ht : (t.get! 0).toNat < 128) : Utf8.decode (s ++ t) p = Utf8.decode s p := by
  have hsz : (s ++ t).size = s.size + t.size := ByteArray.size_append
  have at0 : ∀ k, p + k = s.size → ((s ++ t).get! (p + k)).toNat < 128 := by
    intro k hk
    have := get_append_right s t 0
    rw [Nat.add_zero] at this
    rw [hk, this]
    exact ht
  rw [Lib.decode_at, Lib.decode_at, get_append_left s t p h]
  apply decodeN_stop
  · omega
  · omega
  · intro _; rw [get_append_left s t (p + 1) (by omega)]
  · intro _; rw [get_append_left s t (p + 2) (by omega)]
  · intro _; rw [get_append_left s t (p + 3) (by omega)]
  · intro hn; exact at0 1 (by omega)
  · intro hn; exact at0 2 (by omega)
  · intro hn; exact at0 3 (by omega)
theorem join_stop (s t : ByteArray) (ht : (t.get! 0).toNat < 128) : ∀ (f p : Nat), s.size - p ≤ f → p ≤ s.size → runesOf (s ++ t) p = runesOf s p ++ runesOf t 0 := by
  have hsz : (s ++ t).size = s.size + t.size := ByteArray.size_append
  have hend := (right_of s t t.size 0 (by omega)).1
  rw [Nat.add_zero] at hend
  intro f
  induction f with
  | zero =>
    intro p h hp
    obtain rfl : p = s.size := by omega
    rw [runesOf_end s _ (by omega)]
    exact hend
  | succ f ih =>
    intro p h hp
    by_cases hlt : p < s.size
    · have hd := dec_bound s p hlt
      have := ih (p + (Utf8.decode s p).2) (by omega) (by omega)
      rw [runesOf_step _ _ (by omega), runesOf_step s p hlt, decode_stop s t p hlt ht, this]
      rfl
    · obtain rfl : p = s.size := by omega
      rw [runesOf_end s _ (by omega)]
      exact hend
def nlB : ByteArray := ⟨#[10]⟩
theorem runes_lines (s t : ByteArray) : runesOf (s ++ nlB ++ t) 0 = runesOf s 0 ++ 10 :: runesOf t 0 := by
  have h1 : s ++ nlB ++ t = s ++ (nlB ++ t) := ByteArray.append_assoc
  have hg : ((nlB ++ t).get! 0).toNat < 128 := by
    rw [get_append_left nlB t 0 (by decide)]
    decide
  have h2 := (join_law nlB t nlB.size 0 (by omega) (Nat.zero_le _) (by decide +kernel)).1
  rw [h1, join_stop s (nlB ++ t) hg s.size 0 (by omega) (Nat.zero_le _), h2]
  rfl
end Go.Proofs.YthnhbcohfoodlaaGreatDoor
