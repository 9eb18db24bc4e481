/- The runes of a text's bytes, and where they begin: plain facts on the model's own decoder. No program. -/
import Derived.WalkKit
import Derived.Lib.OthersKept
namespace Go.Proofs.YthnhbcohfoodlaaGreatDoor

theorem dec_bound (s : ByteArray) (p : Nat) (h : p < s.size) : 1 ≤ (Utf8.decode s p).2 ∧ (Utf8.decode s p).2 ≤ 4 ∧ p + (Utf8.decode s p).2 ≤ s.size := by
  simp only [Utf8.decode]
  repeat' split
  all_goals simp_all
  all_goals omega

/-- Where runes begin, and which they are, from place p on. -/
def spotsF (s : ByteArray) : Nat → Nat → List (Nat × Nat)
  | 0, _ => []
  | f + 1, p => if p < s.size then (p, (Utf8.decode s p).1) :: spotsF s f (p + (Utf8.decode s p).2) else []
def spots (s : ByteArray) (p : Nat) : List (Nat × Nat) := spotsF s (s.size - p) p

theorem spotsF_more (s : ByteArray) : ∀ (f g p : Nat), s.size - p ≤ f → f ≤ g → spotsF s g p = spotsF s f p := by
  intro f
  induction f with
  | zero =>
    intro g p h _
    cases g with
    | zero => rfl
    | succ g => simp only [spotsF]; rw [if_neg (by omega)]
  | succ f ih =>
    intro g p h hg
    obtain ⟨g, rfl⟩ : ∃ g', g = g' + 1 := ⟨g - 1, by omega⟩
    simp only [spotsF]
    by_cases hp : p < s.size
    · have := dec_bound s p hp
      rw [if_pos hp, if_pos hp, ih g _ (by omega) (by omega)]
    · rw [if_neg hp, if_neg hp]

theorem spots_step (s : ByteArray) (p : Nat) (h : p < s.size) : spots s p = (p, (Utf8.decode s p).1) :: spots s (p + (Utf8.decode s p).2) := by
  unfold spots
  obtain ⟨f, hf⟩ : ∃ f, s.size - p = f + 1 := ⟨s.size - p - 1, by omega⟩
  have := dec_bound s p h
  rw [hf]
  simp only [spotsF]
  rw [if_pos h, spotsF_more s (s.size - (p + (Utf8.decode s p).2)) f _ (Nat.le_refl _) (by omega)]

theorem spots_end (s : ByteArray) (p : Nat) (h : ¬ p < s.size) : spots s p = [] := by
  unfold spots
  rw [show s.size - p = 0 by omega]
  rfl

theorem spots_length (s : ByteArray) : ∀ (f p : Nat), s.size - p ≤ f → (spots s p).length ≤ s.size - p := by
  intro f
  induction f with
  | zero => intro p h; rw [spots_end s p (by omega)]; simp
  | succ f ih =>
    intro p h
    by_cases hp : p < s.size
    · have := dec_bound s p hp
      have := ih (p + (Utf8.decode s p).2) (by omega)
      rw [spots_step s p hp, List.length_cons]
      omega
    · rw [spots_end s p hp]; simp

/-- A text's runes. -/
def runesOf (s : ByteArray) (p : Nat) : List Int := (spots s p).map fun x => (x.2 : Int)
/-- Where they begin, and where the text ends. -/
def placesOf (s : ByteArray) (p : Nat) : List Int := (spots s p).map fun x => (x.1 : Int)

theorem runesOf_step (s : ByteArray) (p : Nat) (h : p < s.size) : runesOf s p = ((Utf8.decode s p).1 : Int) :: runesOf s (p + (Utf8.decode s p).2) := by
  unfold runesOf; rw [spots_step s p h]; rfl
theorem runesOf_end (s : ByteArray) (p : Nat) (h : ¬ p < s.size) : runesOf s p = [] := by unfold runesOf; rw [spots_end s p h]; rfl
theorem placesOf_step (s : ByteArray) (p : Nat) (h : p < s.size) : placesOf s p = (p : Int) :: placesOf s (p + (Utf8.decode s p).2) := by
  unfold placesOf; rw [spots_step s p h]; rfl
theorem placesOf_end (s : ByteArray) (p : Nat) (h : ¬ p < s.size) : placesOf s p = [] := by unfold placesOf; rw [spots_end s p h]; rfl
theorem runesOf_length (s : ByteArray) : (runesOf s 0).length ≤ s.size := by
  have := spots_length s s.size 0 (by omega)
  simpa [runesOf] using this
theorem runesOf_length' (s : ByteArray) (p : Nat) : (runesOf s p).length ≤ s.size - p := by
  have := spots_length s s.size p (by omega)
  simpa [runesOf] using this
theorem places_runes (s : ByteArray) (p : Nat) : (placesOf s p).length = (runesOf s p).length := by simp [placesOf, runesOf]

/-- PLACES RISE, by four at most. -/
theorem places_rise (s : ByteArray) : ∀ (f p : Nat), s.size - p ≤ f → p ≤ s.size →
    (placesOf s p ++ [(s.size : Int)])[0]? = some (p : Int) ∧ ∀ (i : Nat) (a b : Int), (placesOf s p ++ [(s.size : Int)])[i]? = some a → (placesOf s p ++ [(s.size : Int)])[i + 1]? = some b → a < b ∧ b ≤ a + 4 := by
  intro f
  induction f with
  | zero =>
    intro p h hp
    rw [placesOf_end s p (by omega)]
    have : p = s.size := by omega
    subst this
    refine ⟨rfl, fun i a b _ hb => ?_⟩
    simp at hb
  | succ f ih =>
    intro p h hp
    by_cases hlt : p < s.size
    · have hd := dec_bound s p hlt
      obtain ⟨h0, hr⟩ := ih (p + (Utf8.decode s p).2) (by omega) (by omega)
      rw [placesOf_step s p hlt]
      refine ⟨rfl, fun i a b ha hb => ?_⟩
      cases i with
      | zero =>
        simp only [List.cons_append, List.getElem?_cons_zero, Option.some.injEq] at ha
        simp only [List.cons_append, Nat.zero_add, List.getElem?_cons_succ] at hb
        rw [h0] at hb
        simp only [Option.some.injEq] at hb
        omega
      | succ i =>
        simp only [List.cons_append, List.getElem?_cons_succ] at ha hb
        exact hr i a b ha hb
    · rw [placesOf_end s p hlt]
      have : p = s.size := by omega
      subst this
      refine ⟨rfl, fun i a b _ hb => ?_⟩
      simp at hb

theorem places_bound (s : ByteArray) : ∀ (f p : Nat), s.size - p ≤ f → p ≤ s.size → ∀ x ∈ placesOf s p ++ [(s.size : Int)], 0 ≤ x ∧ x ≤ s.size := by
  intro f
  induction f with
  | zero =>
    intro p h hp x hx
    rw [placesOf_end s p (by omega)] at hx
    simp at hx
    omega
  | succ f ih =>
    intro p h hp x hx
    by_cases hlt : p < s.size
    · have hd := dec_bound s p hlt
      rw [placesOf_step s p hlt, List.cons_append, List.mem_cons] at hx
      rcases hx with rfl | hx
      · omega
      · exact ih (p + (Utf8.decode s p).2) (by omega) (by omega) x hx
    · rw [placesOf_end s p hlt] at hx
      simp at hx
      omega

end Go.Proofs.YthnhbcohfoodlaaGreatDoor
