/- RulesRight -/
import Derived.Test.YthnhbcohfoodlaaGreatDoorZk25
import Derived.Test.YthnhbcohfoodlaaGreatDoorZk11
import Derived.Test.YthnhbcohfoodlaaGreatDoorZk5
import Derived.Lib.RuneBytes
import Derived.Test.YthnhbcohfoodlaaGreatDoorZk13
import Derived.Test.YthnhbcohfoodlaaGreatDoorShelf
import Derived.Lib.FrozenHead
import Derived.Lib.FrozenHead2
import Derived.Test.YthnhbcohfoodlaaGreatDoorZk14
import Derived.Test.YthnhbcohfoodlaaGreatDoorZk2
import Derived.Test.YthnhbcohfoodlaaGreatDoorZk10
import Derived.Lib.MapLaws
import Derived.Test.YthnhbcohfoodlaaGreatDoorZk15
import Derived.Test.YthnhbcohfoodlaaGreatDoorZk21
import Derived.Test.YthnhbcohfoodlaaGreatDoorZk20
import Derived.Test.YthnhbcohfoodlaaGreatDoorZk44
namespace Go.Proofs.YthnhbcohfoodlaaGreatDoor
open Go.RowKit
def ItG (a : ItemD) : Prop := bareI a = a ∧ (a.kind = 1 ∨ a.kind = 2 ∨ a.kind = 3) ∧ a.name.size ≤ 20
theorem elem_good {L : List Int} {a : Nat} {out o : List ItemD} {cur c : Int} {j : Nat} (h : elemP L a out cur = .ok (some ((o, c), j))) (ho : ∀ x ∈ out, ItG x) : ∀ x ∈ o, ItG x := by
  have push : ∀ (l : List ItemD), (∀ x ∈ l, ItG x) → ∀ x ∈ out ++ l, ItG x := by
    intro l hl x hx
    rcases List.mem_append.1 hx with hx | hx
    · exact ho x hx
    · exact hl x hx
  have rune : ∀ x, ItG (runeI x) := fun x => ⟨rfl, .inl rfl, Nat.zero_le _⟩
  unfold elemP at h
  split at h
  · split at h
    · cases h
    · injection h with h; injection h with h; injection h with h1 h2; injection h1 with h1 h3
      subst h1
      exact ho
  · split at h
    · split at h
      · cases h
      · injection h with h; injection h with h; injection h with h1 h2; injection h1 with h1 h3
        subst h1
        exact push _ (fun x hx => by rw [List.mem_singleton.1 hx]; exact ⟨rfl, .inr (.inl rfl), Nat.zero_le _⟩)
    · split at h
      · split at h
        · cases h
        · rename_i hn
          injection h with h; injection h with h; injection h with h1 h2; injection h1 with h1 h3
          subst h1
          exact push _ (fun x hx => by rw [List.mem_singleton.1 hx]; exact ⟨rfl, .inr (.inr rfl), named_len (nameP_ok hn).2.1⟩)
      · split at h
        · split at h
          · cases h
          · rename_i hq
            injection h with h; injection h with h; injection h with h1 h2; injection h1 with h1 h3
            subst h1
            unfold quotedP at hq
            split at hq
            · injection hq with hq; injection hq with hq hq2
              subst hq
              refine push _ (fun x hx => ?_)
              obtain ⟨y, _, rfl⟩ := List.mem_map.1 hx
              exact rune y
            · cases hq
        · split at h
          · split at h
            · cases h
            · split at h
              · injection h with h; injection h with h; injection h with h1 h2; injection h1 with h1 h3
                subst h1
                exact push _ (fun x hx => by rw [List.mem_singleton.1 hx]; exact rune _)
              · cases h
          · injection h with h; cases h
theorem itemsF_good {L : List Int} : ∀ (f i : Nat) (out : List ItemD) (cur : Int) (v : List ItemD × Int) (j : Nat), (∀ x ∈ out, ItG x) → itemsF L f i out cur = .ok (v, j) → ∀ x ∈ v.1, ItG x := by
  intro f
  induction f with
  | zero => intro i out cur v j _ h; rw [itemsF] at h; cases h
  | succ f ih =>
    intro i out cur v j ho h
    rw [itemsF] at h
    cases he : elemP L (spaceP L i) out cur with
    | error e => rw [he] at h; cases h
    | ok q =>
      rw [he] at h
      cases q with
      | none => simp only at h; injection h with h; injection h with h1 h2; subst h1; exact ho
      | some q =>
        obtain ⟨⟨o, c⟩, k⟩ := q
        simp only at h
        split at h
        · cases h
        · exact ih _ _ _ _ _ (elem_good he ho) h
theorem itemsR_good {L : List Int} {i : Nat} {v : List ItemD × Int} {j : Nat} (h : itemsR L i = .ok (v, j)) : ∀ x ∈ v.1, ItG x := itemsF_good _ _ _ _ _ _ (by simp) h
def SdG (s : SideD) : Prop := (∀ x ∈ s.before, ItG x) ∧ (∀ x ∈ s.source, ItG x) ∧ ∀ x ∈ s.after, ItG x
theorem map_bare {l : List ItemD} (h : ∀ x ∈ l, ItG x) : l.map bareI = l := by
  induction l with
  | nil => rfl
  | cons a l ih => rw [List.map_cons, (h a List.mem_cons_self).1, ih (fun x hx => h x (List.mem_cons_of_mem _ hx))]
theorem SdG.bare {s : SideD} (h : SdG s) : bareS s = s := by
  unfold bareS
  rw [map_bare h.1, map_bare h.2.1, map_bare h.2.2]
theorem sideR_good {L : List Int} {i : Nat} {v : SideD} {j : Nat} (h : sideR L i = .ok (v, j)) : SdG v := by
  have nil : ∀ x ∈ ([] : List ItemD), ItG x := by simp
  unfold sideR at h
  cases hh : headR L (decide (pk L (spaceP L i) = 94)) (if pk L (spaceP L i) = 94 then spaceP L i + 1 else spaceP L i) with
  | error e => rw [hh] at h; cases h
  | ok q =>
    obtain ⟨⟨b, s, c⟩, j1⟩ := q
    rw [hh] at h
    simp only at h
    have h1 : (∀ x ∈ b, ItG x) ∧ ∀ x ∈ s, ItG x := by
      unfold headR at hh
      cases hi : itemsR L (if pk L (spaceP L i) = 94 then spaceP L i + 1 else spaceP L i) with
      | error e => rw [hi] at hh; cases hh
      | ok q =>
        obtain ⟨⟨l, c1⟩, j2⟩ := q
        rw [hi] at hh
        simp only at hh
        split at hh
        · split at hh
          · cases hh
          · cases hi2 : itemsR L (j2 + 1) with
            | error e => rw [hi2] at hh; cases hh
            | ok q =>
              obtain ⟨⟨l2, c2⟩, j3⟩ := q
              rw [hi2] at hh
              simp only at hh
              injection hh with hh; injection hh with hh hh2; injection hh with hh3 hh4; injection hh4 with hh5 hh6
              subst hh3 hh5
              exact ⟨itemsR_good hi, itemsR_good hi2⟩
        · split at hh
          · cases hh
          · injection hh with hh; injection hh with hh hh2; injection hh with hh3 hh4; injection hh4 with hh5 hh6
            subst hh3 hh5
            exact ⟨nil, itemsR_good hi⟩
    cases ht : tailR L j1 with
    | error e => rw [ht] at h; cases h
    | ok q =>
      obtain ⟨⟨a, fin⟩, k⟩ := q
      have h2 : ∀ x ∈ a, ItG x := by
        unfold tailR at ht
        split at ht
        · cases hi : itemsR L (j1 + 1) with
          | error e => rw [hi] at ht; cases ht
          | ok q =>
            obtain ⟨⟨l, c1⟩, j2⟩ := q
            rw [hi] at ht
            simp only at ht
            split at ht
            · cases ht
            · split at ht
              · injection ht with ht; injection ht with ht1 ht2; injection ht1 with ht3 ht4; subst ht3; exact itemsR_good hi
              · injection ht with ht; injection ht with ht1 ht2; injection ht1 with ht3 ht4; subst ht3; exact itemsR_good hi
        · injection ht with ht; injection ht with ht1 ht2; injection ht1 with ht3 ht4; subst ht3; exact nil
      rw [ht] at h
      simp only at h
      injection h with h; injection h with h3 h4
      subst h3
      exact ⟨h1.1, h1.2, h2⟩
def PtG (p : PartD) : Prop := partP p = 0 ∧ bareD p = p ∧ SdG p.left ∧ SdG p.right
theorem noSide_good : SdG noSide := ⟨by simp [noSide], by simp [noSide], by simp [noSide]⟩
theorem partR_good {L : List Int} (hL : RunesOk L) {i : Nat} {v : PartD} {j : Nat} (h : partR L i = .ok (v, j)) : PtG v := by
  unfold partR at h
  split at h
  · unfold passR at h
    split at h
    · cases h
    · split at h
      · split at h
        · cases h
        · rename_i hs
          injection h with h; injection h with h1 h2; subst h1
          exact ⟨wrong_of (setP_ok hL 20 _ _ _ hs).2, rfl, noSide_good, noSide_good⟩
      · split at h
        · rename_i hb
          injection h with h; injection h with h1 h2; subst h1
          refine ⟨?_, rfl, noSide_good, noSide_good⟩
          unfold partP
          rw [if_neg (show ¬ ((4 : Int) = 1) by decide), if_neg (show ¬ ((4 : Int) = 3) by decide), if_pos rfl, if_pos hb]
        · cases h
  · split at h
    · unfold varR at h
      split at h
      · cases h
      · rename_i hn
        split at h
        · cases h
        · split at h
          · cases h
          · rename_i hs
            injection h with h; injection h with h1 h2; subst h1
            refine ⟨?_, rfl, noSide_good, noSide_good⟩
            unfold partP
            rw [if_pos rfl, if_pos (nameP_ok hn).2.1]
            exact wrong_of (setP_ok hL 20 _ _ _ hs).2
    · unfold ruleR at h
      split at h
      · cases h
      · rename_i hl
        split at h
        · cases h
        · split at h
          · cases h
          · rename_i hr
            split at h
            · cases h
            · rename_i hw
              injection h with h; injection h with h1 h2; subst h1
              have g1 := sideR_good hl
              have g2 := sideR_good hr
              refine ⟨Decidable.of_not_not hw, ?_, g1, g2⟩
              unfold bareD
              simp only [g1.bare, g2.bare]
              rfl
theorem fileF_good {L : List Int} (hL : RunesOk L) : ∀ (f i : Nat) (l r : List PartD), fileF L f i l = .ok r → l.length ≤ 200 → (∀ p ∈ l, PtG p) → (∀ p ∈ r, PtG p) ∧ r.length ≤ 200 := by
  intro f
  induction f with
  | zero => intro i l r h; rw [fileF] at h; cases h
  | succ f ih =>
    intro i l r h hn hl
    rw [fileF] at h
    split at h
    · injection h with h; subst h; exact ⟨hl, hn⟩
    · split at h
      · cases h
      · split at h
        · cases h
        · rename_i hp
          split at h
          · cases h
          · refine ih _ _ _ h (by rw [List.length_append, List.length_singleton]; omega) (fun p hp2 => ?_)
            rcases List.mem_append.1 hp2 with hp2 | hp2
            · exact hl p hp2
            · rw [List.mem_singleton.1 hp2]; exact partR_good hL hp
theorem rulesP_parts {L : List Int} (hL : RunesOk L) : (∀ p ∈ (rulesP L).1, PtG p) ∧ (rulesP L).1.length ≤ 200 := by
  by_cases h1 : 16000 < L.length
  · rw [rulesP_much h1]; exact ⟨by simp, Nat.zero_le _⟩
  · cases h2 : fileF L (L.length + 1) 0 [] with
    | error e =>
      obtain ⟨e, p⟩ := e
      rw [rulesP_err h1 h2]
      exact ⟨by simp, Nat.zero_le _⟩
    | ok l =>
      rw [rulesP_ok h1 h2]
      exact fileF_good hL _ _ _ _ h2 (Nat.zero_le _) (by simp)
end Go.Proofs.YthnhbcohfoodlaaGreatDoor
