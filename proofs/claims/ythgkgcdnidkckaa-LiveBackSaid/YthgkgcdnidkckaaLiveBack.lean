/- LiveBack: runes that are typed behind any keys, and as many steps back, leave what there was. The plain law on typedP, and the walk of scriptlaw21.LiveBack. -/
import Derived.Test.YthgkgcdnidkckaaLiveAlive
import Derived.Test.YthgkgcdnidkckaaAppend
import Derived.Test.YthgkgcdnidkckaaSame
namespace Go.Proofs.Ythgkgcdnidkckaa
open Go.RowKit

theorem typedGo_append (a b : List (Int × Int)) : ∀ (acc : List Int) (i : Nat), typedGo acc i (a ++ b) =
    if (typedGo acc i a).2.1 = 0 then typedGo (typedGo acc i a).1 (i + a.length) b else typedGo acc i a := by
  induction a with
  | nil => intro acc i; simp [typedGo]
  | cons x a ih =>
    intro acc i
    simp only [List.cons_append, typedGo]
    by_cases h : (strikeP acc x.1 x.2).2 = 0
    · simp only [h, if_true, ih, List.length_cons]
      rw [show i + 1 + a.length = i + (a.length + 1) by omega]
    · simp [h]

theorem typedGo_len (a : List (Int × Int)) : ∀ (acc : List Int) (i : Nat), (typedGo acc i a).1.length ≤ acc.length + a.length := by
  induction a with
  | nil => intro acc i; simp [typedGo]
  | cons x a ih =>
    intro acc i
    simp only [typedGo]
    have h1 := strike_len acc x.1 x.2
    split
    · have := ih (strikeP acc x.1 x.2).1 (i + 1)
      simp only [List.length_cons]
      omega
    · simp

theorem typedGo_runes (rs : List Int) : ∀ (acc : List Int) (i : Nat), (∀ r ∈ rs, rightB r = true) → acc.length + rs.length ≤ 4000 → typedGo acc i (rs.map fun r => (1, r)) = (acc ++ rs, 0, 0) := by
  induction rs with
  | nil => intro acc i _ _; simp [typedGo]
  | cons r rs ih =>
    intro acc i hr hl
    simp only [List.length_cons] at hl
    have h1 : strikeP acc 1 r = (acc ++ [r], 0) := by
      simp only [strikeP]
      rw [if_pos trivial, if_neg (by simp [hr r (by simp)]), if_neg (by omega)]
    simp only [List.map_cons, typedGo, h1, if_true]
    rw [ih (acc ++ [r]) (i + 1) (fun x hx => hr x (by simp [hx])) (by simp; omega)]
    simp

theorem typedGo_backs (n : Nat) : ∀ (rs acc : List Int) (i : Nat), rs.length = n → typedGo (acc ++ rs) i (List.replicate n ((2 : Int), (0 : Int))) = (acc, 0, 0) := by
  induction n with
  | zero => intro rs acc i h; have := List.eq_nil_of_length_eq_zero h; subst this; simp [typedGo]
  | succ n ih =>
    intro rs acc i h
    have hne : rs ≠ [] := by intro e; subst e; simp at h
    have h1 : strikeP (acc ++ rs) 2 0 = (acc ++ rs.dropLast, 0) := by
      simp only [strikeP]
      rw [if_neg (by decide), if_pos trivial, if_neg (by simp [hne]), List.dropLast_append_of_ne_nil hne]
    simp only [List.replicate_succ, typedGo, h1, if_true]
    exact ih rs.dropLast acc (i + 1) (by simp [h])

/-- THE PLAIN LAW. -/
theorem back_law (ks : List (Int × Int)) (rs : List Int) (acc : List Int) (x : Int) (h : typedP ks = (acc, 0, x)) (hl : ks.length + 2 * rs.length ≤ 500) (hr : ∀ r ∈ rs, rightB r = true) :
    typedP (ks ++ rs.map (fun r => (1, r)) ++ List.replicate rs.length (2, 0)) = (acc, 0, 0) := by
  unfold typedP at h ⊢
  rw [if_neg (by omega)] at h
  rw [if_neg (by simp; omega)]
  have hlen := typedGo_len ks [] 0
  rw [h] at hlen
  simp at hlen
  rw [typedGo_append, typedGo_append, h]
  simp only [if_true]
  rw [typedGo_runes rs acc _ hr (by omega)]
  simp only [if_true]
  exact typedGo_backs _ rs acc _ rfl

end Go.Proofs.Ythgkgcdnidkckaa
