/- Utf + Spoilt -/
import Derived.WalkKit
import Derived.Lib.OthersKept
import Derived.Lib.RuneCountTail
namespace Go.Proofs.YthnhbcohfoodlaaGreatDoor
theorem dec_bound (s : ByteArray) (p : Nat) (h : p < s.size) : 1 ≤ (Utf8.decode s p).2 ∧ (Utf8.decode s p).2 ≤ 4 ∧ p + (Utf8.decode s p).2 ≤ s.size := by
 simp only [Utf8.decode]
 repeat' split
 all_goals simp_all
 all_goals omega
def spotsF (s : ByteArray) : Nat → Nat → List (Nat × Nat)
 | 0, _ => []
 | f + 1, p => if p < s.size then (p, (Utf8.decode s p).1) :: spotsF s f (p + (Utf8.decode s p).2) else []
def spots (s : ByteArray) (p : Nat) : List (Nat × Nat) := spotsF s (s.size - p) p
theorem spotsF_more (s : ByteArray) : ∀ (f g p : Nat), s.size - p ≤ f → f ≤ g → spotsF s g p = spotsF s f p := by
 intro f
 induction f with
 | zero =>
   intro g p h _
   cases g with
   | zero => rfl
   | succ g => simp only [spotsF]; rw [if_neg (by omega)]
 | succ f ih =>
   intro g p h hg
   obtain ⟨g, rfl⟩ : ∃ g', g = g' + 1 := ⟨g - 1, by omega⟩
   simp only [spotsF]
   by_cases hp : p < s.size
   ·have := dec_bound s p hp
    rw [if_pos hp, if_pos hp, ih g _ (by omega) (by omega)]
   ·rw [if_neg hp, if_neg hp]
theorem spots_step (s : ByteArray) (p : Nat) (h : p < s.size) : spots s p = (p, (Utf8.decode s p).1) :: spots s (p + (Utf8.decode s p).2) := by
 unfold spots
 obtain ⟨f, hf⟩ : ∃ f, s.size - p = f + 1 := ⟨s.size - p - 1, by omega⟩
 have := dec_bound s p h
 rw [hf]
 simp only [spotsF]
 rw [if_pos h, spotsF_more s (s.size - (p + (Utf8.decode s p).2)) f _ (Nat.le_refl _) (by omega)]
theorem spots_end (s : ByteArray) (p : Nat) (h : ¬ p < s.size) : spots s p = [] := by
 unfold spots
 rw [show s.size - p = 0 by omega]
 rfl
theorem spots_length (s : ByteArray) : ∀ (f p : Nat), s.size - p ≤ f → (spots s p).length ≤ s.size - p := by
 intro f
 induction f with
 | zero => intro p h; rw [spots_end s p (by omega)]; simp
 | succ f ih =>
   intro p h
   by_cases hp : p < s.size
   ·have := dec_bound s p hp
    have := ih (p + (Utf8.decode s p).2) (by omega)
    rw [spots_step s p hp, List.length_cons]
    omega
   ·rw [spots_end s p hp]; simp
def runesOf (s : ByteArray) (p : Nat) : List Int := (spots s p).map fun x => (x.2 : Int)
theorem runesOf_step (s : ByteArray) (p : Nat) (h : p < s.size) : runesOf s p = ((Utf8.decode s p).1 : Int) :: runesOf s (p + (Utf8.decode s p).2) := by
 unfold runesOf; rw [spots_step s p h]; rfl
theorem runesOf_end (s : ByteArray) (p : Nat) (h : ¬ p < s.size) : runesOf s p = [] := by unfold runesOf; rw [spots_end s p h]; rfl
end Go.Proofs.YthnhbcohfoodlaaGreatDoor

namespace Go.Proofs.YthnhbcohfoodlaaGreatDoor
def badAt (s : ByteArray) (p : Nat) : Bool := (Utf8.decode s p).1 == 65533 && (Utf8.decode s p).2 == 1
def spoiltF (s : ByteArray) : Nat → Nat → Nat
 | 0, _ => 0
 | f + 1, p => if p < s.size then (if badAt s p then 1 else 0) + spoiltF s f (p + (Utf8.decode s p).2) else 0
def spoilt (s : ByteArray) (p : Nat) : Nat := spoiltF s (s.size - p) p
theorem spoiltF_more (s : ByteArray) : ∀ (f g p : Nat), s.size - p ≤ f → f ≤ g → spoiltF s g p = spoiltF s f p := by
 intro f
 induction f with
 | zero =>
   intro g p h _
   cases g with
   | zero => rfl
   | succ g => simp only [spoiltF]; rw [if_neg (by omega)]
 | succ f ih =>
   intro g p h hg
   obtain ⟨g, rfl⟩ : ∃ g', g = g' + 1 := ⟨g - 1, by omega⟩
   simp only [spoiltF]
   by_cases hp : p < s.size
   ·have := dec_bound s p hp
    rw [if_pos hp, if_pos hp, ih g _ (by omega) (by omega)]
   ·rw [if_neg hp, if_neg hp]
theorem spoilt_step (s : ByteArray) (p : Nat) (h : p < s.size) : spoilt s p = (if badAt s p then 1 else 0) + spoilt s (p + (Utf8.decode s p).2) := by
 unfold spoilt
 obtain ⟨f, hf⟩ : ∃ f, s.size - p = f + 1 := ⟨s.size - p - 1, by omega⟩
 have := dec_bound s p h
 rw [hf]
 simp only [spoiltF]
 rw [if_pos h, spoiltF_more s (s.size - (p + (Utf8.decode s p).2)) f _ (Nat.le_refl _) (by omega)]
theorem spoilt_end (s : ByteArray) (p : Nat) (h : ¬ p < s.size) : spoilt s p = 0 := by
 unfold spoilt
 rw [show s.size - p = 0 by omega]
 rfl
theorem decodeN_more (n m b0 b1 b2 b3 c1 c2 c3 : Nat) (hnm : n ≤ m) (h1 : 1 < n → c1 = b1) (h2 : 2 < n → c2 = b2) (h3 : 3 < n → c3 = b3)
 (hg : ¬ (Lib.decodeN n b0 b1 b2 b3 = (65533, 1))) : Lib.decodeN m b0 c1 c2 c3 = Lib.decodeN n b0 b1 b2 b3 := by
 by_cases k0 : b0 < 128
 ·simp [Lib.decodeN, k0]
 by_cases k1 : b0 / 32 = 6 ∧ (1 < n ∧ b1 / 64 = 2)
 ·obtain ⟨k1, k2, k3⟩ := k1
  have e1 := h1 k2
  subst e1
  simp [Lib.decodeN, k0, k1, k2, k3, show 1 < m by omega]
 by_cases k2 : b0 / 16 = 14 ∧ (1 < n ∧ b1 / 64 = 2) ∧ (2 < n ∧ b2 / 64 = 2)
 ·obtain ⟨k2, ⟨k3, k4⟩, k5, k6⟩ := k2
  have e1 := h1 k3
  have e2 := h2 k5
  subst e1 e2
  simp [Lib.decodeN, k0, k2, k3, k4, k5, k6, show 1 < m by omega, show 2 < m by omega, show ¬ b0 / 32 = 6 by omega]
 by_cases k3 : b0 / 8 = 30 ∧ (1 < n ∧ b1 / 64 = 2) ∧ (2 < n ∧ b2 / 64 = 2) ∧ (3 < n ∧ b3 / 64 = 2)
 ·obtain ⟨k3, ⟨k4, k5⟩, ⟨k6, k7⟩, k8, k9⟩ := k3
  have e1 := h1 k4
  have e2 := h2 k6
  have e3 := h3 k8
  subst e1 e2 e3
  simp [Lib.decodeN, k0, k3, k4, k5, k6, k7, k8, k9, show 1 < m by omega, show 2 < m by omega, show 3 < m by omega, show ¬ b0 / 32 = 6 by omega, show ¬ b0 / 16 = 14 by omega]
 ·exact absurd (by unfold Lib.decodeN; rw [if_neg k0, if_neg k1, if_neg k2, if_neg k3]) hg
theorem get_append_left (s t : ByteArray) (i : Nat) (h : i < s.size) : (s ++ t).get! i = s.get! i := by
 rw [← Lib.getD_get!', ← Lib.getD_get!']
 have e : (s ++ t).data.toList = s.data.toList ++ t.data.toList := by simp
 have hs : s.data.toList.length = s.size := by rw [Array.length_toList]; rfl
 rw [e, List.getD, List.getD, List.getElem?_append_left (by omega)]
theorem get_append_right (s t : ByteArray) (i : Nat) : (s ++ t).get! (s.size + i) = t.get! i := by
 rw [← Lib.getD_get!', ← Lib.getD_get!']
 have e : (s ++ t).data.toList = s.data.toList ++ t.data.toList := by simp
 have hs : s.data.toList.length = s.size := by rw [Array.length_toList]; rfl
 rw [e, List.getD, List.getD, List.getElem?_append_right (by omega), hs, Nat.add_sub_cancel_left]
theorem decode_left (s t : ByteArray) (p : Nat) (h : p < s.size) (hb : badAt s p = false) : Utf8.decode (s ++ t) p = Utf8.decode s p := by
 have hsz : (s ++ t).size = s.size + t.size := ByteArray.size_append
 rw [Lib.decode_at, Lib.decode_at, get_append_left s t p h]
 apply decodeN_more
 ·omega
 ·intro _; rw [get_append_left s t (p + 1) (by omega)]
 ·intro _; rw [get_append_left s t (p + 2) (by omega)]
 ·intro _; rw [get_append_left s t (p + 3) (by omega)]
 ·rw [← Lib.decode_at]
  intro e
  unfold badAt at hb
  rw [e] at hb
  simp at hb
theorem decode_right (s t : ByteArray) (q : Nat) : Utf8.decode (s ++ t) (s.size + q) = Utf8.decode t q := by
 have hsz : (s ++ t).size = s.size + t.size := ByteArray.size_append
 rw [Lib.decode_at, Lib.decode_at, get_append_right, Nat.add_assoc, get_append_right, Nat.add_assoc, get_append_right, Nat.add_assoc, get_append_right]
 congr 1
 omega
theorem right_of (s t : ByteArray) : ∀ (f q : Nat), t.size - q ≤ f → runesOf (s ++ t) (s.size + q) = runesOf t q ∧ spoilt (s ++ t) (s.size + q) = spoilt t q := by
 have hsz : (s ++ t).size = s.size + t.size := ByteArray.size_append
 intro f
 induction f with
 | zero =>
   intro q h
   rw [runesOf_end _ _ (by omega), runesOf_end _ _ (by omega), spoilt_end _ _ (by omega), spoilt_end _ _ (by omega)]
   exact ⟨rfl, rfl⟩
 | succ f ih =>
   intro q h
   by_cases hq : q < t.size
   ·have hd := dec_bound t q hq
    have := ih (q + (Utf8.decode t q).2) (by omega)
    rw [runesOf_step _ _ (by omega), runesOf_step t q hq, spoilt_step _ _ (by omega), spoilt_step t q hq]
    unfold badAt
    rw [decode_right, Nat.add_assoc, this.1, this.2]
    exact ⟨rfl, rfl⟩
   ·rw [runesOf_end _ _ (by omega), runesOf_end _ _ (by omega), spoilt_end _ _ (by omega), spoilt_end _ _ (by omega)]
    exact ⟨rfl, rfl⟩
theorem join_law (s t : ByteArray) : ∀ (f p : Nat), s.size - p ≤ f → p ≤ s.size → spoilt s p = 0 → runesOf (s ++ t) p = runesOf s p ++ runesOf t 0 ∧ spoilt (s ++ t) p = spoilt t 0 := by
 have hsz : (s ++ t).size = s.size + t.size := ByteArray.size_append
 have hend := right_of s t t.size 0 (by omega)
 rw [Nat.add_zero] at hend
 intro f
 induction f with
 | zero =>
   intro p h hp _
   obtain rfl : p = s.size := by omega
   rw [runesOf_end s _ (by omega)]
   exact hend
 | succ f ih =>
   intro p h hp h0
   by_cases hlt : p < s.size
   ·have hd := dec_bound s p hlt
    rw [spoilt_step s p hlt] at h0
    have hb : badAt s p = false := by
     cases hb : badAt s p
     ·rfl
     ·rw [hb] at h0; simp at h0
    have := ih (p + (Utf8.decode s p).2) (by omega) (by omega) (by omega)
    have hb2 : badAt (s ++ t) p = false := by unfold badAt; rw [decode_left s t p hlt hb]; exact hb
    rw [runesOf_step _ _ (by omega), runesOf_step s p hlt, spoilt_step _ _ (by omega), decode_left s t p hlt hb, this.1, this.2, hb2]
    simp
   ·obtain rfl : p = s.size := by omega
    rw [runesOf_end s _ (by omega)]
    exact hend
end Go.Proofs.YthnhbcohfoodlaaGreatDoor
