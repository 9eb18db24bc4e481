/- RulesNum -/
import Derived.Test.YthnhbcohfoodlaaGreatDoorZk25
import Derived.Test.YthnhbcohfoodlaaGreatDoorZk43
namespace Go.Proofs.YthnhbcohfoodlaaGreatDoor
open Go.RowKit
theorem nameP_num (L : List Int) (i : Nat) : ErrNum (nameP L i) := by
  intro e p h
  unfold nameP at h
  split at h
  · cases h
  · injection h with h; injection h with h1 h2; omega
theorem quotedP_num (L : List Int) (i : Nat) : ErrNum (quotedP L i) := by
  intro e p h
  unfold quotedP at h
  split at h
  · cases h
  · injection h with h; injection h with h1 h2; omega
theorem elemP_num (L : List Int) (a : Nat) (out : List ItemD) (cur : Int) (e : Int) (p : Nat) (h : elemP L a out cur = .error (e, p)) : e ≠ 0 := by
  unfold elemP at h
  split at h
  · split at h
    · injection h with h; injection h with h1 h2; omega
    · cases h
  · split at h
    · split at h
      · rename_i h1; injection h with h; subst h; exact setP_num L 20 a _ _ h1
      · cases h
    · split at h
      · split at h
        · rename_i h1; injection h with h; subst h; exact nameP_num L _ _ _ h1
        · cases h
      · split at h
        · split at h
          · rename_i h1; injection h with h; subst h; exact quotedP_num L _ _ _ h1
          · cases h
        · split at h
          · split at h
            · rename_i h1; injection h with h; subst h; exact charP_num L _ _ _ h1
            · split at h
              · cases h
              · injection h with h; injection h with h1 h2; omega
          · cases h
theorem itemsF_num (L : List Int) : ∀ f i out cur, ErrNum (itemsF L f i out cur) := by
  intro f
  induction f with
  | zero => intro i out cur e p h; rw [itemsF] at h; injection h with h; injection h with h1 h2; omega
  | succ f ih =>
    intro i out cur e p h
    rw [itemsF] at h
    split at h
    · rename_i h1; injection h with h; subst h; exact elemP_num L _ _ _ _ _ h1
    · cases h
    · split at h
      · injection h with h; injection h with h1 h2; omega
      · exact ih _ _ _ _ _ h
theorem headR_num (L : List Int) (st : Bool) (a : Nat) : ErrNum (headR L st a) := by
  intro e p h
  unfold headR at h
  split at h
  · rename_i h1; injection h with h; subst h; exact itemsF_num L _ _ _ _ _ _ h1
  · split at h
    · split at h
      · injection h with h; injection h with h1 h2; omega
      · split at h
        · rename_i h1; injection h with h; subst h; exact itemsF_num L _ _ _ _ _ _ h1
        · cases h
    · split at h
      · injection h with h; injection h with h1 h2; omega
      · cases h
theorem tailR_num (L : List Int) (a : Nat) : ErrNum (tailR L a) := by
  intro e p h
  unfold tailR at h
  split at h
  · split at h
    · rename_i h1; injection h with h; subst h; exact itemsF_num L _ _ _ _ _ _ h1
    · split at h
      · injection h with h; injection h with h1 h2; omega
      · split at h <;> cases h
  · cases h
theorem sideR_num (L : List Int) (i : Nat) : ErrNum (sideR L i) := by
  intro e p h
  unfold sideR at h
  split at h
  · rename_i h1; injection h with h; subst h; exact headR_num L _ _ _ _ h1
  · split at h
    · rename_i h1; injection h with h; subst h; exact tailR_num L _ _ _ h1
    · cases h
theorem arrowR_num (L : List Int) (i : Nat) : ErrNum (arrowR L i) := by
  intro e p h
  unfold arrowR at h
  split at h
  · cases h
  · split at h
    · cases h
    · split at h
      · rename_i h1; injection h with h; subst h; exact needP_num h1
      · cases h
theorem partR_num (L : List Int) (i : Nat) : ErrNum (partR L i) := by
  intro e p h
  unfold partR at h
  split at h
  · unfold passR at h
    split at h
    · rename_i h1; injection h with h; subst h; exact needP_num h1
    · split at h
      · split at h
        · rename_i h1; injection h with h; subst h; exact setP_num L 20 _ _ _ h1
        · cases h
      · split at h
        · cases h
        · injection h with h; injection h with h1 h2; omega
  · split at h
    · unfold varR at h
      split at h
      · rename_i h1; injection h with h; subst h; exact nameP_num L _ _ _ h1
      · split at h
        · rename_i h1; injection h with h; subst h; exact needP_num h1
        · split at h
          · rename_i h1; injection h with h; subst h; exact setP_num L 20 _ _ _ h1
          · cases h
    · unfold ruleR at h
      split at h
      · rename_i h1; injection h with h; subst h; exact sideR_num L _ _ _ h1
      · split at h
        · rename_i h1; injection h with h; subst h; exact arrowR_num L _ _ _ h1
        · split at h
          · rename_i h1; injection h with h; subst h; exact sideR_num L _ _ _ h1
          · split at h
            · rename_i h1; injection h with h; injection h with h2 h3; subst h2; exact h1
            · cases h
theorem fileF_num (L : List Int) : ∀ f i l (e : Int) (p : Nat), fileF L f i l = .error (e, p) → e ≠ 0 := by
  intro f
  induction f with
  | zero => intro i l e p h; rw [fileF] at h; injection h with h; injection h with h1 h2; omega
  | succ f ih =>
    intro i l e p h
    rw [fileF] at h
    split at h
    · cases h
    · split at h
      · injection h with h; injection h with h1 h2; omega
      · split at h
        · rename_i h1; injection h with h; subst h; exact partR_num L _ _ _ h1
        · split at h
          · rename_i h1; injection h with h; subst h; exact needP_num h1
          · exact ih _ _ _ _ h
theorem rulesP_much {L : List Int} (h : 16000 < L.length) : rulesP L = ([], (4, 0)) := by unfold rulesP; rw [if_pos h]
theorem rulesP_err {L : List Int} {e : Int} {p : Nat} (h : ¬ 16000 < L.length) (h2 : fileF L (L.length + 1) 0 [] = .error (e, p)) : rulesP L = ([], (e, (p : Int))) := by unfold rulesP; rw [if_neg h, h2]
theorem rulesP_ok {L : List Int} {l : List PartD} (h : ¬ 16000 < L.length) (h2 : fileF L (L.length + 1) 0 [] = .ok l) : rulesP L = (l, (0, 0)) := by unfold rulesP; rw [if_neg h, h2]
theorem rulesP_good {L : List Int} (h : (rulesP L).2.1 = 0) : L.length ≤ 16000 ∧ fileF L (L.length + 1) 0 [] = .ok (rulesP L).1 ∧ (rulesP L).2 = (0, 0) := by
  by_cases h1 : 16000 < L.length
  · rw [rulesP_much h1] at h
    exact absurd h (by decide)
  · cases h2 : fileF L (L.length + 1) 0 [] with
    | error e =>
      obtain ⟨e, p⟩ := e
      rw [rulesP_err h1 h2] at h
      exact absurd h (fileF_num L _ _ _ _ _ h2)
    | ok l =>
      rw [rulesP_ok h1 h2]
      exact ⟨by omega, rfl, rfl⟩
theorem rules_join {L M : List Int} (hL : RunesOk L) (hM : RunesOk M) (h1 : (rulesP L).2.1 = 0) (h2 : (rulesP M).2.1 = 0) (hlen : L.length + 1 + M.length ≤ 16000) (hn : (rulesP L).1.length + (rulesP M).1.length ≤ 200) : rulesP (L ++ 10 :: M) = ((rulesP L).1 ++ (rulesP M).1, (0, 0)) := by
  obtain ⟨_, a1, _⟩ := rulesP_good h1
  obtain ⟨_, b1, _⟩ := rulesP_good h2
  generalize (rulesP L).1 = a at *
  generalize (rulesP M).1 = b at *
  have hlen' : (L ++ 10 :: M).length = L.length + 1 + M.length := by simp; omega
  have E1 : Emb 0 L (L ++ 10 :: M) := ⟨fun k hk => by rw [Nat.zero_add, List.getElem?_append_left hk], .inl (by rw [Nat.zero_add]; exact pk_at (by rw [List.getElem?_append_right (Nat.le_refl _), Nat.sub_self]; rfl))⟩
  have hend : pk (L ++ 10 :: M) (L.length + 1 + M.length) = -1 := pk_end (by rw [hlen']; exact Nat.le_refl _)
  have E2 : Emb (L.length + 1) M (L ++ 10 :: M) := ⟨fun k _ => by
    rw [List.getElem?_append_right (by omega), show L.length + 1 + k - L.length = k + 1 by omega, List.getElem?_cons_succ], .inr (.inr hend)⟩
  have hs1 : pk (L ++ 10 :: M) (0 + L.length) = 10 := by rw [Nat.zero_add]; exact pk_at (by rw [List.getElem?_append_right (Nat.le_refl _), Nat.sub_self]; rfl)
  have s2 := second_file E2 hM hend _ (M.length + 1) 0 [] b a (Nat.le_refl _) (Nat.zero_le _) b1 (by omega)
  rw [List.append_nil] at s2
  have s1 := first_file E1 hL hs1 (by omega) _ M.length 0 [] a (a ++ b) (Nat.zero_le _) a1 (by rw [Nat.zero_add]; exact s2)
  have hok : RunesOk (L ++ 10 :: M) := by
    intro x hx
    rcases List.mem_append.1 hx with h | h
    · exact hL x h
    · rcases List.mem_cons.1 h with rfl | h
      · decide
      · exact hM x h
  exact rulesP_ok (by omega) (file_full hok (Nat.zero_le _) s1)
end Go.Proofs.YthnhbcohfoodlaaGreatDoor
