/- Utf + Spoilt -/
import Derived.WalkKit
import Derived.Lib.OthersKept
import Derived.Lib.RuneCountTail
namespace Go.Proofs.YthnhbcohfoodlaaGreatDoor
theorem fI (s : ByteArray) (p : Nat) (h : p < s.size) : 1 ≤ (Utf8.decode s p).2 ∧ (Utf8.decode s p).2 ≤ 4 ∧ p + (Utf8.decode s p).2 ≤ s.size := by
 simp only [Utf8.decode];(repeat' split);(all_goals simp_all);(all_goals omega)
def oW (s : ByteArray) : Nat → Nat → List (Nat × Nat)
  | 0, _ => []
  | f + 1, p => if p < s.size then (p, (Utf8.decode s p).1) :: oW s f (p + (Utf8.decode s p).2) else []
def vV (s : ByteArray) (p : Nat) : List (Nat × Nat) := oW s (s.size - p) p
theorem Bo (s : ByteArray) : ∀ (f g p : Nat), s.size - p ≤ f → f ≤ g → oW s g p = oW s f p := by
 intro f;induction f with
 | zero =>
  intro g p h _;cases g with
  | zero => rfl
  | succ g => simp only [oW]; rw [if_neg (by omega)]
 | succ f ih =>
  intro g p h hg;obtain ⟨g, rfl⟩ : ∃ g', g = g' + 1 := ⟨g - 1, by omega⟩;simp only [oW];by_cases hp : p < s.size
  ·have := fI s p hp;rw [if_pos hp, if_pos hp, ih g _ (by omega) (by omega)]
  rw [if_neg hp, if_neg hp]
theorem vA (s : ByteArray) (p : Nat) (h : p < s.size) : vV s p = (p, (Utf8.decode s p).1) :: vV s (p + (Utf8.decode s p).2) := by
 unfold vV;obtain ⟨f, hf⟩ : ∃ f, s.size - p = f + 1 := ⟨s.size - p - 1, by omega⟩;have := fI s p h;rw [hf];simp only [oW];rw [if_pos h, Bo s (s.size - (p + (Utf8.decode s p).2)) f _ (Nat.le_refl _) (by omega)]
theorem q8 (s : ByteArray) (p : Nat) (h : ¬ p < s.size) : vV s p = [] := by
 unfold vV;rw [show s.size - p = 0 by omega];rfl
theorem yj (s : ByteArray) : ∀ (f p : Nat), s.size - p ≤ f → (vV s p).length ≤ s.size - p := by
 intro f;induction f with
 | zero => intro p h; rw [q8 s p (by omega)]; simp
 | succ f ih =>
  intro p h;by_cases hp : p < s.size
  ·have := fI s p hp;have := ih (p + (Utf8.decode s p).2) (by omega);rw [vA s p hp, List.length_cons];omega
  rw [q8 s p hp]; simp
def cM (s : ByteArray) (p : Nat) : List Int := (vV s p).map fun x => (x.2 : Int)
theorem fu (s : ByteArray) (p : Nat) (h : p < s.size) : cM s p = ((Utf8.decode s p).1 : Int) :: cM s (p + (Utf8.decode s p).2) := by
 unfold cM; rw [vA s p h]; rfl
theorem dD (s : ByteArray) (p : Nat) (h : ¬ p < s.size) : cM s p = [] := by unfold cM; rw [q8 s p h]; rfl
def ou (s : ByteArray) (p : Nat) : Bool := (Utf8.decode s p).1 == 65533 && (Utf8.decode s p).2 == 1
def lZ (s : ByteArray) : Nat → Nat → Nat
  | 0, _ => 0
  | f + 1, p => if p < s.size then (if ou s p then 1 else 0) + lZ s f (p + (Utf8.decode s p).2) else 0
def spoilt (s : ByteArray) (p : Nat) : Nat := lZ s (s.size - p) p
theorem yG (s : ByteArray) : ∀ (f g p : Nat), s.size - p ≤ f → f ≤ g → lZ s g p = lZ s f p := by
 intro f;induction f with
 | zero =>
  intro g p h _;cases g with
  | zero => rfl
  | succ g => simp only [lZ]; rw [if_neg (by omega)]
 | succ f ih =>
  intro g p h hg;obtain ⟨g, rfl⟩ : ∃ g', g = g' + 1 := ⟨g - 1, by omega⟩;simp only [lZ];by_cases hp : p < s.size
  ·have := fI s p hp;rw [if_pos hp, if_pos hp, ih g _ (by omega) (by omega)]
  rw [if_neg hp, if_neg hp]
theorem iY (s : ByteArray) (p : Nat) (h : p < s.size) : spoilt s p = (if ou s p then 1 else 0) + spoilt s (p + (Utf8.decode s p).2) := by
 unfold spoilt;obtain ⟨f, hf⟩ : ∃ f, s.size - p = f + 1 := ⟨s.size - p - 1, by omega⟩;have := fI s p h;rw [hf];simp only [lZ];rw [if_pos h, yG s (s.size - (p + (Utf8.decode s p).2)) f _ (Nat.le_refl _) (by omega)]
theorem iL (s : ByteArray) (p : Nat) (h : ¬ p < s.size) : spoilt s p = 0 := by
 unfold spoilt;rw [show s.size - p = 0 by omega];rfl
theorem decodeN_more (n m b0 b1 b2 b3 c1 c2 c3 : Nat) (hnm : n ≤ m) (h1 : 1 < n → c1 = b1) (h2 : 2 < n → c2 = b2) (h3 : 3 < n → c3 = b3)
    (hg : ¬ (Lib.decodeN n b0 b1 b2 b3 = (65533, 1))) : Lib.decodeN m b0 c1 c2 c3 = Lib.decodeN n b0 b1 b2 b3 := by
 by_cases k0 : b0 < 128
 ·simp [Lib.decodeN, k0]
 by_cases k1 : b0 / 32 = 6 ∧ (1 < n ∧ b1 / 64 = 2)
 ·obtain ⟨k1, k2, k3⟩ := k1;have e1 := h1 k2;subst e1;simp [Lib.decodeN, k0, k1, k2, k3, show 1 < m by omega]
 by_cases k2 : b0 / 16 = 14 ∧ (1 < n ∧ b1 / 64 = 2) ∧ (2 < n ∧ b2 / 64 = 2)
 ·obtain ⟨k2, ⟨k3, k4⟩, k5, k6⟩ := k2;have e1 := h1 k3;have e2 := h2 k5;subst e1 e2;simp [Lib.decodeN, k0, k2, k3, k4, k5, k6, show 1 < m by omega, show 2 < m by omega, show ¬ b0 / 32 = 6 by omega]
 by_cases k3 : b0 / 8 = 30 ∧ (1 < n ∧ b1 / 64 = 2) ∧ (2 < n ∧ b2 / 64 = 2) ∧ (3 < n ∧ b3 / 64 = 2)
 ·obtain ⟨k3, ⟨k4, k5⟩, ⟨k6, k7⟩, k8, k9⟩ := k3;have e1 := h1 k4;have e2 := h2 k6;have e3 := h3 k8;subst e1 e2 e3;simp [Lib.decodeN, k0, k3, k4, k5, k6, k7, k8, k9, show 1 < m by omega, show 2 < m by omega, show 3 < m by omega, show ¬ b0 / 32 = 6 by omega, show ¬ b0 / 16 = 14 by omega]
 exact absurd (by unfold Lib.decodeN; rw [if_neg k0, if_neg k1, if_neg k2, if_neg k3]) hg
theorem gL (s t : ByteArray) (i : Nat) (h : i < s.size) : (s ++ t).get! i = s.get! i := by
 rw [← Lib.getD_get!', ← Lib.getD_get!'];have e : (s ++ t).data.toList = s.data.toList ++ t.data.toList := (by simp);have hs : s.data.toList.length = s.size := (by rw [Array.length_toList]; rfl);rw [e, List.getD, List.getD, List.getElem?_append_left (by omega)]
theorem gy (s t : ByteArray) (i : Nat) : (s ++ t).get! (s.size + i) = t.get! i := by
 rw [← Lib.getD_get!', ← Lib.getD_get!'];have e : (s ++ t).data.toList = s.data.toList ++ t.data.toList := (by simp);have hs : s.data.toList.length = s.size := (by rw [Array.length_toList]; rfl);rw [e, List.getD, List.getD, List.getElem?_append_right (by omega), hs, Nat.add_sub_cancel_left]
theorem sP (s t : ByteArray) (p : Nat) (h : p < s.size) (hb : ou s p = false) : Utf8.decode (s ++ t) p = Utf8.decode s p := by
 have hsz : (s ++ t).size = s.size + t.size := ByteArray.size_append;rw [Lib.decode_at, Lib.decode_at, gL s t p h];apply decodeN_more;omega
 ·intro _; rw [gL s t (p + 1) (by omega)]
 ·intro _; rw [gL s t (p + 2) (by omega)]
 ·intro _; rw [gL s t (p + 3) (by omega)]
 rw [← Lib.decode_at];intro e;unfold ou at hb;rw [e] at hb;simp at hb
theorem yL (s t : ByteArray) (q : Nat) : Utf8.decode (s ++ t) (s.size + q) = Utf8.decode t q := by
 have hsz : (s ++ t).size = s.size + t.size := ByteArray.size_append;rw [Lib.decode_at, Lib.decode_at, gy, Nat.add_assoc, gy, Nat.add_assoc, gy, Nat.add_assoc, gy];congr 1;omega
theorem JX (s t : ByteArray) : ∀ (f q : Nat), t.size - q ≤ f → cM (s ++ t) (s.size + q) = cM t q ∧ spoilt (s ++ t) (s.size + q) = spoilt t q := by
 have hsz : (s ++ t).size = s.size + t.size := ByteArray.size_append;intro f;induction f with
 | zero =>
  intro q h;rw [dD _ _ (by omega), dD _ _ (by omega), iL _ _ (by omega), iL _ _ (by omega)];exact ⟨rfl, rfl⟩
 | succ f ih =>
  intro q h;by_cases hq : q < t.size
  ·have hd := fI t q hq;have := ih (q + (Utf8.decode t q).2) (by omega);rw [fu _ _ (by omega), fu t q hq, iY _ _ (by omega), iY t q hq];unfold ou;rw [yL, Nat.add_assoc, this.1, this.2];exact ⟨rfl, rfl⟩
  rw [dD _ _ (by omega), dD _ _ (by omega), iL _ _ (by omega), iL _ _ (by omega)];exact ⟨rfl, rfl⟩
theorem Ic (s t : ByteArray) : ∀ (f p : Nat), s.size - p ≤ f → p ≤ s.size → spoilt s p = 0 → cM (s ++ t) p = cM s p ++ cM t 0 ∧ spoilt (s ++ t) p = spoilt t 0 := by
 have hsz : (s ++ t).size = s.size + t.size := ByteArray.size_append;have hend := JX s t t.size 0 (by omega);rw [Nat.add_zero] at hend;intro f;induction f with
 | zero =>
  intro p h hp _;obtain rfl : p = s.size := (by omega);rw [dD s _ (by omega)];exact hend
 | succ f ih =>
  intro p h hp h0;by_cases hlt : p < s.size
  ·have hd := fI s p hlt;rw [iY s p hlt] at h0;have hb : ou s p = false := by
    cases hb : ou s p;rfl;rw [hb] at h0; simp at h0
   have := ih (p + (Utf8.decode s p).2) (by omega) (by omega) (by omega);have bn : ou (s ++ t) p = false := (by unfold ou; rw [sP s t p hlt hb]; exact hb);rw [fu _ _ (by omega), fu s p hlt, iY _ _ (by omega), sP s t p hlt hb, this.1, this.2, bn];simp
  obtain rfl : p = s.size := (by omega);rw [dD s _ (by omega)];exact hend
end Go.Proofs.YthnhbcohfoodlaaGreatDoor
