/- RunesText -/
import Derived.Test.YthnhbcohfoodlaaGreatDoorZk13
import Derived.Laws.Cover4
import Derived.Laws.Runes
namespace Go.Proofs.YthnhbcohfoodlaaGreatDoor
open Go.RowKit
def asciiL (l : List Int) : Prop := ∀ x ∈ l, 0 ≤ x ∧ x < 128
def rowB (l : List Int) : List UInt8 := l.map fun x => UInt8.ofNat x.toNat
theorem encode_low {r : Int} (h0 : 0 ≤ r) (h1 : r < 128) : (Utf8.encode r).data.toList = [UInt8.ofNat r.toNat] := by
  have hv : Utf8.valid r = true := by simp [Utf8.valid]; omega
  unfold Utf8.encode
  simp only [hv, if_true]
  rw [if_pos (by omega)]
theorem encode_high {r : Int} (h : ¬ (0 ≤ r ∧ r < 128)) : ∃ b ∈ (Utf8.encode r).data.toList, 128 ≤ b.toNat := by
  cases hv : Utf8.valid r
  · have : Utf8.encode r = Utf8.encode 65533 := by
      unfold Utf8.encode
      simp only [hv, show Utf8.valid 65533 = true from by decide]
      rfl
    rw [this]
    exact ⟨239, by decide, by decide⟩
  · have h128 : 128 ≤ r := by
      simp [Utf8.valid] at hv
      omega
    obtain ⟨h1, _, h3⟩ := encode_facts r hv h128
    exact ⟨_, Array.getElem_mem_toList (xs := (Utf8.encode r).data) (by simpa using (show (Utf8.encode r).size - 1 < (Utf8.encode r).size by omega)), h3 (by omega)⟩
theorem runesBytes_go (l : List Int) : ∀ s : ByteArray, (l.foldl (fun r n => r ++ Utf8.encode n) s).data.toList = s.data.toList ++ l.flatMap fun r => (Utf8.encode r).data.toList := by
  induction l with
  | nil => intro s; simp
  | cons x l ih => intro s; rw [List.foldl_cons, ih, List.flatMap_cons]; simp
theorem runesBytes_list (l : List Int) : (runesBytes l).data.toList = l.flatMap fun r => (Utf8.encode r).data.toList := by
  rw [runesBytes, runesBytes_go]; rfl
theorem runesBytes_ascii {l : List Int} (h : asciiL l) : (runesBytes l).data.toList = rowB l := by
  rw [runesBytes_list]
  induction l with
  | nil => rfl
  | cons x l ih =>
    have hx := h x List.mem_cons_self
    rw [List.flatMap_cons, encode_low hx.1 hx.2, ih (fun y hy => h y (List.mem_cons_of_mem _ hy))]
    rfl
theorem rowB_inj : ∀ {a b : List Int}, asciiL a → asciiL b → rowB a = rowB b → a = b := by
  intro a
  induction a with
  | nil => intro b _ _ h; cases b with
    | nil => rfl
    | cons y b => cases h
  | cons x a ih =>
    intro b ha hb h
    cases b with
    | nil => cases h
    | cons y b =>
      unfold rowB at h
      rw [List.map_cons, List.map_cons] at h
      injection h with h1 h2
      have hx := ha x List.mem_cons_self
      have hy := hb y List.mem_cons_self
      have h3 := congrArg UInt8.toNat h1
      simp at h3
      obtain rfl : x = y := by omega
      rw [ih (fun z hz => ha z (List.mem_cons_of_mem _ hz)) (fun z hz => hb z (List.mem_cons_of_mem _ hz)) h2]
theorem runesBytes_eq {l m : List Int} (hm : asciiL m) (h : runesBytes l = runesBytes m) : l = m := by
  have e : (runesBytes l).data.toList = rowB m := by rw [h, runesBytes_ascii hm]
  have hl : asciiL l := by
    intro x hx
    by_cases h1 : 0 ≤ x ∧ x < 128
    · exact h1
    · exfalso
      obtain ⟨b, hb, h2⟩ := encode_high h1
      have : b ∈ rowB m := by rw [← e, runesBytes_list]; exact List.mem_flatMap.2 ⟨x, hx, hb⟩
      unfold rowB at this
      obtain ⟨y, hy, rfl⟩ := List.mem_map.1 this
      have := hm y hy
      simp at h2
      omega
  rw [runesBytes_ascii hl] at e
  exact rowB_inj hl hm e
theorem runesBytes_size {l : List Int} (h : asciiL l) : (runesBytes l).size = l.length := by
  have h2 := congrArg List.length (runesBytes_ascii h)
  rw [rowB, List.length_map, Array.length_toList] at h2
  exact h2
theorem hex_ascii {l : List Int} (h : ∀ d ∈ l, hexB d = true) : asciiL l := by
  intro d hd
  have := h d hd
  unfold hexB at this
  simp only [Bool.or_eq_true, Bool.and_eq_true, decide_eq_true_eq] at this
  omega
theorem hexVal_snoc (l : List Int) (d : Int) : hexVal (l ++ [d]) = 16 * hexVal l + hexV d := by unfold hexVal; rw [List.foldl_append]; rfl
theorem hexVal_small {l : List Int} (h : ∀ d ∈ l, hexB d = true) (hl : l.length ≤ 6) : 0 ≤ hexVal l ∧ hexVal l < 16777216 := by
  obtain ⟨h1, h2⟩ := hexFold_range l 0 (Int.le_refl _) h
  refine ⟨h1, Int.lt_of_lt_of_le h2 ?_⟩
  generalize l.length = k at hl
  have : k = 0 ∨ k = 1 ∨ k = 2 ∨ k = 3 ∨ k = 4 ∨ k = 5 ∨ k = 6 := by omega
  rcases this with rfl | rfl | rfl | rfl | rfl | rfl | rfl <;> decide
end Go.Proofs.YthnhbcohfoodlaaGreatDoor
