/- strings.Join with a blank, of a list of texts that the call owns. -/
import Derived.Test.YtdfljicijfceeaaDoorStrs
import Derived.Test.YtdfljicijfceeaaDoorShelf
namespace Go.Proofs.YtdfljicijfceeaaDoor
open Go.RowKit Go.Shelf

theorem join_len (l : List (List UInt8)) (m : Nat) (h : ∀ x ∈ l, x.length ≤ m) : (Lib.join l [32]).length ≤ l.length * (m + 1) := by
  have tail : ∀ r : List (List UInt8), (∀ x ∈ r, x.length ≤ m) → (Lib.joinTail [32] r).length ≤ r.length * (m + 1) := by
    intro r
    induction r with
    | nil => intro _; simp [Lib.joinTail]
    | cons x r ih =>
      intro hr
      have h1 := ih (fun y hy => hr y (by simp [hy]))
      have h2 := hr x (by simp)
      simp only [Lib.joinTail, List.map_cons, List.flatten_cons, List.length_append, List.length_cons, List.length_nil] at h1 ⊢
      rw [Nat.succ_mul]
      omega
  cases l with
  | nil => simp [Lib.join_nil]
  | cons x r =>
    rw [Lib.join_cons]
    have h1 := tail r (fun y hy => h y (by simp [hy]))
    have h2 := h x (by simp)
    rw [List.length_append, List.length_cons, Nat.succ_mul]
    omega

theorem join_owned (A : Option Addr) (n c base : Nat) (l : List (List UInt8)) (w : World) (h : OwnT w base (.slice A n c) l) (hn : l.length = n) (hm : n ≤ 1000) (hj : (Lib.join l [32]).length ≤ 140737488355328) :
    Calls Tryd.prog 12 #[.slice A n c, .string ⟨#[32]⟩] w fun e w' => e = .returned (.string ⟨(Lib.join l [32]).toArray⟩) ∧ Below w.heap.size w w' := by
  subst hn
  rcases Nat.eq_zero_or_pos l.length with h0 | h0
  · have hl := List.eq_nil_of_length_eq_zero h0
    subst hl
    refine (Tryd.strings_Join_none A c ⟨#[32]⟩ w).mono ?_
    rintro e w' ⟨rfl, rfl⟩
    exact ⟨rfl, Below.refl _ _⟩
  · obtain ⟨g, c', hv, hc, _, hlt⟩ := own_some h h0
    injection hv with hA _ hcc
    subst hA hcc
    have hmap : (l.map fun x => (⟨x.toArray⟩ : ByteArray)).map (·.data.toList) = l := by
      rw [List.map_map]
      exact List.map_id'' (fun x => by simp) l
    have hsl : (⟨#[32]⟩ : ByteArray).data.toList = [32] := rfl
    have := Tryd.strings_Join g 0 c (l.map fun x => ⟨x.toArray⟩) ⟨#[32]⟩ w (fun j x hx => by
      have h2 := World.ownsRow.cells h (g := g) rfl j (.string x) (by
        simp only [strVals, List.getElem?_map, Option.map_eq_some_iff] at hx ⊢
        obtain ⟨y, hy, rfl⟩ := hx
        exact ⟨y, hy, rfl⟩)
      rwa [add_at] at h2) hlt (by simp; omega) (by simpa using hc) (by rw [hmap, hsl]; exact hj)
    rw [hmap, hsl, List.length_map] at this
    exact this

end Go.Proofs.YtdfljicijfceeaaDoor
