/- RulesEmb2 + FileSyn -/
import Derived.Test.YthnhbcohfoodlaaGreatDoorZt15
import Derived.Test.YthnhbcohfoodlaaGreatDoorZt14
namespace Go.Proofs.YthnhbcohfoodlaaGreatDoor
open Go.RowKit
theorem spaceP_at {L : List Int} {i : Nat} (h1 : blankB (pk L i) = false) (h2 : pk L i ≠ 35) : spaceP L i = i := by
 have e : skipP L i = i := runFrom_out (fun _ => h1)
 rw [spaceP_eq, e, if_neg h2]
theorem spaceP_on {L : List Int} {i : Nat} (hl : i < L.length) (h1 : blankB (pk L i) = true) : spaceP L i = spaceP L (i + 1) := by
 have e : skipP L i = skipP L (i + 1) := runFrom_in hl h1
 rw [spaceP_eq L i, e, ← spaceP_eq]
theorem items_sp {L : List Int} (hL : RunesOk L) : ∀ (f i : Nat) (out : List ItemD) (cur : Int) (v : List ItemD × Int) (j : Nat), itemsF L f i out cur = .ok (v, j) → spaceP L i ≤ j := by
 intro f
 induction f with
 | zero => intro i out cur v j h; rw [itemsF] at h; cases h
 | succ f ih =>
   intro i out cur v j h
   rw [itemsF] at h
   cases he : elemP L (spaceP L i) out cur with
   | error e => rw [he] at h; cases h
   | ok q =>
     rw [he] at h
     cases q with
     | none => simp only at h; injection h with h; injection h with h1 h2; omega
     | some q =>
       obtain ⟨⟨o, c⟩, k⟩ := q
       simp only at h
       by_cases h20 : 20 < o.length
       ·rw [if_pos h20] at h; cases h
       ·rw [if_neg h20] at h
        have h1 := (elemP_ok hL he).1
        have h2 := ih _ _ _ _ _ h
        have h3 := spaceP_ge L k
        omega
theorem pk_neg {L : List Int} (hL : RunesOk L) {k : Nat} (h : pk L k < 0) : L.length ≤ k := by
 rcases Nat.lt_or_ge k L.length with hl | hl
 ·have := hL (L[k]) (List.getElem_mem hl)
  rw [pk_at (List.getElem?_eq_getElem hl)] at h
  omega
 ·exact hl
section
variable {p : Nat} {L L' : List Int} (E : Emb p L L')
include E
theorem emb_space : ∀ (d i : Nat), L.length - i = d → i ≤ L.length → (spaceP L i < L.length ∨ pk L' (p + L.length) = -1) → spaceP L' (p + i) = p + spaceP L i := by
 intro d
 induction d using Nat.strongRecOn with
 | _ d ih =>
   intro i hd hi hq
   rw [spaceP_eq L i] at hq
   rw [spaceP_eq L i, spaceP_eq L' (p + i)]
   by_cases h35 : pk L (skipP L i) = 35
   ·obtain ⟨hl, hm⟩ := rem_on h35
    rw [if_pos h35] at hq ⊢
    rw [E.skip hi hl, E.pk hl, if_pos h35]
    have h1 := skipP_ge L i
    have h2 : runFrom remB L (skipP L i) ≤ L.length := (runFrom_le (Nat.le_of_lt hl)).2
    have h3 := spaceP_ge L (runFrom remB L (skipP L i))
    rw [E.run _ _ rfl (Nat.le_of_lt hl) (by rcases hq with hq | hq; exact .inl (by omega); exact .inr (by rw [hq]; rfl))]
    exact ih _ (by omega) _ rfl h2 hq
   ·rw [if_neg h35] at hq ⊢
    have hs : skipP L i ≤ L.length := skipP_le hi
    have e : skipP L' (p + i) = p + skipP L i := E.run _ i rfl hi (by rcases hq with hq | hq; exact .inl hq; exact .inr (by rw [hq]; rfl))
    rw [e, if_neg]
    rcases Nat.lt_or_ge (skipP L i) L.length with hl | hl
    ·rw [E.pk hl]; exact h35
    ·rcases hq with hq | hq
     ·omega
     ·rw [show skipP L i = L.length by omega, hq]; decide
theorem emb_wordEnd {i : Nat} (hi : i ≤ L.length) : wordEnd L' (p + i) = p + wordEnd L i := by
 unfold wordEnd
 rcases Nat.lt_or_ge i L.length with hl | hl
 ·rw [E.pk hl]
  split
  ·exact E.run2 (by decide) (by decide) (by decide) hi
  ·rfl
 ·have e : i = L.length := by omega
  subst e
  rw [pk_end (Nat.le_refl _), if_neg (by decide : ¬ letB (-1) = true), if_neg]
  rcases E.stop with e | e | e <;> rw [e] <;> decide
theorem emb_wordT {i : Nat} (hi : i ≤ L.length) : wordT L' (p + i) = wordT L i := by
 unfold wordT
 rw [emb_wordEnd E hi, E.text (wordEnd_le hi)]
theorem emb_name {i : Nat} (hi : i ≤ L.length) : EmbR p L (nameP L i) (nameP L' (p + i)) := by
 intro v j h
 have hj := (nameP_ok h).2.2.2
 unfold nameP at h ⊢
 rw [emb_wordT E hi, emb_wordEnd E hi]
 split at h
 ·rename_i hn
  rw [if_pos hn]
  injection h with h; injection h with h3 h4; subst h3 h4
  exact ⟨wordEnd_le hi, rfl⟩
 ·cases h
theorem emb_quoted {i : Nat} (hi : i < L.length) : EmbR p L (quotedP L i) (quotedP L' (p + i)) := by
 intro v j h
 have hj := (quotedP_ok h).2
 refine ⟨hj, ?_⟩
 unfold quotedP at h ⊢
 by_cases h39 : pk L (runFrom notQ L (i + 1)) = 39
 ·have hl : runFrom notQ L (i + 1) < L.length := pk_lt (by omega)
  rw [if_pos h39] at h
  rw [show p + i + 1 = p + (i + 1) from rfl, E.run _ (i + 1) rfl hi (.inl hl), E.pk hl, if_pos h39, E.text (Nat.le_of_lt hl)]
  injection h with h; injection h with h3 h4; subst h3 h4
  rfl
 ·rw [if_neg h39] at h; cases h
theorem emb_let {k : Nat} (hk : k ≤ L.length) : letB (pk L' (p + k)) = letB (pk L k) := by
 rcases Nat.lt_or_ge k L.length with hl | hl
 ·rw [E.pk hl]
 ·have e : k = L.length := by omega
  subst e
  rw [pk_end (Nat.le_refl _)]
  rcases E.stop with e | e | e <;> rw [e] <;> decide
theorem emb_elem_none {a : Nat} (ha : a < L.length) {out : List ItemD} {cur : Int} (h : elemP L a out cur = .ok none) : elemP L' (p + a) out cur = .ok none := by
 unfold elemP at h ⊢
 rw [E.pk ha, show p + a + 1 = p + (a + 1) from rfl, emb_let E ha]
 by_cases h124 : pk L a = 124
 ·rw [if_pos h124] at h
  split at h <;> first | cases h | (injection h with h; cases h)
 ·rw [if_neg h124] at h ⊢
  by_cases h91 : pk L a = 91
  ·rw [if_pos h91] at h
   split at h <;> first | cases h | (injection h with h; cases h)
  ·rw [if_neg h91] at h ⊢
   by_cases h36 : pk L a = 36 ∧ letB (pk L (a + 1)) = true
   ·rw [if_pos h36] at h
    split at h <;> first | cases h | (injection h with h; cases h)
   ·rw [if_neg h36] at h ⊢
    by_cases h39 : pk L a = 39
    ·rw [if_pos h39] at h
     split at h <;> first | cases h | (injection h with h; cases h)
    ·rw [if_neg h39] at h ⊢
     by_cases h92 : pk L a = 92 ∨ plainB (pk L a) = true
     ·rw [if_pos h92] at h
      split at h
      ·cases h
      ·split at h <;> first | cases h | (injection h with h; cases h)
     ·rw [if_neg h92]
theorem emb_elem (hL : RunesOk L) {a j : Nat} {out o : List ItemD} {cur c : Int} (h : elemP L a out cur = .ok (some ((o, c), j))) : a < j ∧ j ≤ L.length ∧ elemP L' (p + a) out cur = .ok (some ((o, c), p + j)) := by
 have haj := (elemP_ok hL h).1
 have ha : a < L.length := by
  refine pk_lt (fun e => ?_)
  unfold elemP at h
  rw [e] at h
  simp [plainB] at h
 refine ⟨haj, ?_⟩
 unfold elemP at h ⊢
 rw [E.pk ha, show p + a + 1 = p + (a + 1) from rfl, emb_let E ha]
 by_cases h124 : pk L a = 124
 ·rw [if_pos h124] at h ⊢
  by_cases hc : 0 ≤ cur
  ·rw [if_pos hc] at h; cases h
  ·rw [if_neg hc] at h ⊢
   injection h with h; injection h with h; injection h with h1 h2; injection h1 with h1 h3
   subst h1 h2 h3
   exact ⟨ha, rfl⟩
 ·rw [if_neg h124] at h ⊢
  by_cases h91 : pk L a = 91
  ·rw [if_pos h91] at h ⊢
   cases hs : setP' L 20 a with
   | error e => rw [hs] at h; cases h
   | ok q =>
     obtain ⟨s, k⟩ := q
     obtain ⟨_, hk, e1⟩ := emb_set E hL 20 _ _ _ hs
     rw [hs] at h
     rw [e1]
     simp only at h ⊢
     injection h with h; injection h with h; injection h with h1 h2; injection h1 with h1 h3
     subst h1 h2 h3
     exact ⟨hk, rfl⟩
  ·rw [if_neg h91] at h ⊢
   by_cases h36 : pk L a = 36 ∧ letB (pk L (a + 1)) = true
   ·rw [if_pos h36] at h ⊢
    cases hs : nameP L (a + 1) with
    | error e => rw [hs] at h; cases h
    | ok q =>
      obtain ⟨s, k⟩ := q
      obtain ⟨hk, e1⟩ := emb_name E ha _ _ hs
      rw [hs] at h
      rw [e1]
      simp only at h ⊢
      injection h with h; injection h with h; injection h with h1 h2; injection h1 with h1 h3
      subst h1 h2 h3
      exact ⟨hk, rfl⟩
   ·rw [if_neg h36] at h ⊢
    by_cases h39 : pk L a = 39
    ·rw [if_pos h39] at h ⊢
     cases hs : quotedP L a with
     | error e => rw [hs] at h; cases h
     | ok q =>
       obtain ⟨s, k⟩ := q
       obtain ⟨hk, e1⟩ := emb_quoted E ha _ _ hs
       rw [hs] at h
       rw [e1]
       simp only at h ⊢
       injection h with h; injection h with h; injection h with h1 h2; injection h1 with h1 h3
       subst h1 h2 h3
       exact ⟨hk, rfl⟩
    ·rw [if_neg h39] at h ⊢
     by_cases h92 : pk L a = 92 ∨ plainB (pk L a) = true
     ·rw [if_pos h92] at h ⊢
      cases hs : charP L a with
      | error e => rw [hs] at h; cases h
      | ok q =>
        obtain ⟨x, k⟩ := q
        obtain ⟨hk, e1⟩ := emb_char E _ _ _ hs
        rw [hs] at h
        rw [e1]
        simp only at h ⊢
        by_cases hr : rightB x = true
        ·rw [if_pos hr] at h ⊢
         injection h with h; injection h with h; injection h with h1 h2; injection h1 with h1 h3
         subst h1 h2 h3
         exact ⟨hk, rfl⟩
        ·rw [if_neg hr] at h; cases h
     ·rw [if_neg h92] at h; injection h with h; cases h
theorem emb_items (hL : RunesOk L) : ∀ (f f' i : Nat) (out : List ItemD) (cur : Int) (v : List ItemD × Int) (j : Nat), f ≤ f' → i ≤ L.length → itemsF L f i out cur = .ok (v, j) → i ≤ j ∧ j ≤ L.length ∧ (j < L.length → itemsF L' f' (p + i) out cur = .ok (v, p + j)) := by
 intro f
 induction f with
 | zero => intro f' i out cur v j _ _ h; rw [itemsF] at h; cases h
 | succ f ih =>
   intro f' i out cur v j hf hi h
   obtain ⟨f', rfl⟩ : ∃ g, f' = g + 1 := ⟨f' - 1, by omega⟩
   have h0 := spaceP_ge L i
   have h1 := spaceP_le hi
   rw [itemsF] at h
   cases he : elemP L (spaceP L i) out cur with
   | error e => rw [he] at h; cases h
   | ok q =>
     rw [he] at h
     cases q with
     | none =>
       simp only at h
       injection h with h; injection h with h3 h4; subst h3 h4
       exact ⟨h0, h1, fun hj => by rw [itemsF, emb_space E _ i rfl hi (.inl hj), emb_elem_none E hj he]⟩
     | some q =>
       obtain ⟨⟨o, c⟩, k⟩ := q
       simp only at h
       by_cases h20 : 20 < o.length
       ·rw [if_pos h20] at h; cases h
       ·rw [if_neg h20] at h
        obtain ⟨g1, g2, g3⟩ := emb_elem E hL he
        obtain ⟨k1, k2, k3⟩ := ih f' k o c v j (by omega) g2 h
        refine ⟨by omega, k2, fun hj => ?_⟩
        rw [itemsF, emb_space E _ i rfl hi (.inl (by omega)), g3]
        simp only
        rw [if_neg h20]
        exact k3 hj
theorem emb_itemsR (hL : RunesOk L) {i : Nat} {v : List ItemD × Int} {j : Nat} (hi : i ≤ L.length) (h : itemsR L i = .ok (v, j)) : i ≤ j ∧ j ≤ L.length ∧ (j < L.length → itemsR L' (p + i) = .ok (v, p + j)) :=
 emb_items E hL _ _ _ _ _ _ _ (by have := E.len; omega) hi h
theorem emb_head (hL : RunesOk L) {start : Bool} {a : Nat} {v : List ItemD × List ItemD × Int} {j : Nat} (ha : a ≤ L.length) (h : headR L start a = .ok (v, j)) : a ≤ j ∧ j ≤ L.length ∧ (j < L.length → headR L' start (p + a) = .ok (v, p + j)) := by
 unfold headR at h
 cases hi : itemsR L a with
 | error e => rw [hi] at h; cases h
 | ok q =>
   obtain ⟨⟨l, c⟩, j1⟩ := q
   obtain ⟨g1, g2, g3⟩ := emb_itemsR E hL ha hi
   rw [hi] at h
   simp only at h
   by_cases h123 : pk L j1 = 123
   ·have hl1 : j1 < L.length := pk_lt (by omega)
    rw [if_pos h123] at h
    by_cases hc : 0 ≤ c
    ·rw [if_pos hc] at h; cases h
    ·rw [if_neg hc] at h
     cases hi2 : itemsR L (j1 + 1) with
     | error e => rw [hi2] at h; cases h
     | ok q =>
       obtain ⟨⟨l2, c2⟩, j2⟩ := q
       obtain ⟨k1, k2, k3⟩ := emb_itemsR E hL hl1 hi2
       rw [hi2] at h
       simp only at h
       injection h with h; injection h with h3 h4; subst h3 h4
       refine ⟨by omega, k2, fun hj => ?_⟩
       unfold headR
       rw [g3 hl1]
       simp only
       rw [E.pk hl1, if_pos h123, if_neg hc, show p + j1 + 1 = p + (j1 + 1) from rfl, k3 hj]
   ·rw [if_neg h123] at h
    by_cases hs : start = true
    ·rw [if_pos hs] at h; cases h
    ·rw [if_neg hs] at h
     injection h with h; injection h with h3 h4; subst h3 h4
     refine ⟨g1, g2, fun hj => ?_⟩
     unfold headR
     rw [g3 hj]
     simp only
     rw [E.pk hj, if_neg h123, if_neg hs]
theorem emb_tail (hL : RunesOk L) {i : Nat} {v : List ItemD × Bool} {j : Nat} (hi : i ≤ L.length) (h : tailR L i = .ok (v, j)) : i ≤ j ∧ j ≤ L.length ∧ (j < L.length → tailR L' (p + i) = .ok (v, p + j)) := by
 unfold tailR at h
 by_cases h125 : pk L i = 125
 ·have hl : i < L.length := pk_lt (by omega)
  rw [if_pos h125] at h
  cases hi2 : itemsR L (i + 1) with
  | error e => rw [hi2] at h; cases h
  | ok q =>
    obtain ⟨⟨l, c⟩, k⟩ := q
    obtain ⟨k1, k2, k3⟩ := emb_itemsR E hL hl hi2
    rw [hi2] at h
    simp only at h
    by_cases hc : 0 ≤ c
    ·rw [if_pos hc] at h; cases h
    ·rw [if_neg hc] at h
     by_cases h36 : pk L k = 36
     ·have hl2 : k < L.length := pk_lt (by omega)
      rw [if_pos h36] at h
      injection h with h; injection h with h3 h4; subst h3 h4
      refine ⟨by omega, hl2, fun hj => ?_⟩
      unfold tailR
      rw [E.pk hl, if_pos h125, show p + i + 1 = p + (i + 1) from rfl, k3 hl2]
      simp only
      rw [if_neg hc, E.pk hl2, if_pos h36]
      rfl
     ·rw [if_neg h36] at h
      injection h with h; injection h with h3 h4; subst h3 h4
      refine ⟨by omega, k2, fun hj => ?_⟩
      unfold tailR
      rw [E.pk hl, if_pos h125, show p + i + 1 = p + (i + 1) from rfl, k3 hj]
      simp only
      rw [if_neg hc, E.pk hj, if_neg h36]
 ·rw [if_neg h125] at h
  injection h with h; injection h with h3 h4; subst h3 h4
  refine ⟨Nat.le_refl _, hi, fun hj => ?_⟩
  unfold tailR
  rw [E.pk hj, if_neg h125]
theorem emb_side (hL : RunesOk L) {i : Nat} {v : SideD} {j : Nat} (hi : i ≤ L.length) (h : sideR L i = .ok (v, j)) : spaceP L i ≤ j ∧ j ≤ L.length ∧ (j < L.length → sideR L' (p + i) = .ok (v, p + j)) := by
 unfold sideR at h
 obtain ⟨a0, ha0⟩ : ∃ a0, spaceP L i = a0 := ⟨_, rfl⟩
 rw [ha0] at h
 have hle0 : a0 ≤ L.length := by rw [← ha0]; exact spaceP_le hi
 obtain ⟨a1, ha1⟩ : ∃ a1, (if pk L a0 = 94 then a0 + 1 else a0) = a1 := ⟨_, rfl⟩
 rw [ha1] at h
 have hle1 : a0 ≤ a1 ∧ a1 ≤ L.length := by
  rw [← ha1]
  split
  ·rename_i h94
   have := pk_lt (L := L) (i := a0) (by omega)
   omega
  ·exact ⟨Nat.le_refl _, hle0⟩
 cases hh : headR L (decide (pk L a0 = 94)) a1 with
 | error e => rw [hh] at h; cases h
 | ok q =>
   obtain ⟨⟨b, s, c⟩, j1⟩ := q
   obtain ⟨g1, g2, g3⟩ := emb_head E hL hle1.2 hh
   rw [hh] at h
   simp only at h
   cases ht : tailR L j1 with
   | error e => rw [ht] at h; cases h
   | ok q =>
     obtain ⟨⟨a, fin⟩, k⟩ := q
     obtain ⟨k1, k2, k3⟩ := emb_tail E hL g2 ht
     rw [ht] at h
     simp only at h
     injection h with h; injection h with h3 h4; subst h3 h4
     have h5 := spaceP_ge L k
     have h6 := spaceP_le k2
     refine ⟨by omega, h6, fun hj => ?_⟩
     have hl0 : a0 < L.length := by omega
     unfold sideR
     rw [emb_space E _ i rfl hi (.inl (by omega)), ha0, E.pk hl0, show (if pk L a0 = 94 then p + a0 + 1 else p + a0) = p + a1 by rw [← ha1]; split <;> rfl, g3 (by omega)]
     simp only
     rw [k3 (by omega)]
     simp only
     rw [emb_space E _ k rfl k2 (.inl hj)]
theorem emb_arrow {i : Nat} {d : Int} {j : Nat} (h : arrowR L i = .ok (d, j)) : i < j ∧ j ≤ L.length ∧ arrowR L' (p + i) = .ok (d, p + j) := by
 unfold arrowR at h ⊢
 by_cases h62 : pk L i = 62
 ·have hl : i < L.length := pk_lt (by omega)
  rw [if_pos h62] at h
  injection h with h; injection h with h3 h4; subst h3 h4
  rw [E.pk hl, if_pos h62]
  exact ⟨by omega, hl, rfl⟩
 ·rw [if_neg h62] at h
  by_cases h60 : pk L i = 60 ∧ pk L (i + 1) = 62
  ·have hl : i < L.length := pk_lt (by omega)
   have hl2 : i + 1 < L.length := pk_lt (by omega)
   rw [if_pos h60] at h
   injection h with h; injection h with h3 h4; subst h3 h4
   rw [E.pk hl, show p + i + 1 = p + (i + 1) from rfl, E.pk hl2, if_neg h62, if_pos h60]
   exact ⟨by omega, hl2, rfl⟩
  ·rw [if_neg h60] at h
   cases hn : needP L i 60 with
   | error e => rw [hn] at h; cases h
   | ok k =>
     obtain ⟨hk, e1⟩ := emb_need E hn (by decide)
     obtain ⟨rfl, hp⟩ := needP_ok hn
     have hl : i < L.length := hk
     rw [hn] at h
     simp only at h
     injection h with h; injection h with h3 h4; subst h3 h4
     have c1 := E.is (k := i + 1) hk (r := 62) (by decide) (by decide) (by decide)
     rw [E.pk hl, if_neg h62, show p + i + 1 = p + (i + 1) from rfl, if_neg (fun x => h60 ⟨x.1, c1.1 x.2⟩), e1]
     exact ⟨by omega, hk, rfl⟩
theorem emb_rule (hL : RunesOk L) {i : Nat} {v : PartD} {j : Nat} (hi : i ≤ L.length) (h : ruleR L i = .ok (v, j)) : i ≤ j ∧ j ≤ L.length ∧ (j < L.length → ruleR L' (p + i) = .ok (v, p + j)) := by
 unfold ruleR at h
 cases hs : sideR L i with
 | error e => rw [hs] at h; cases h
 | ok q =>
   obtain ⟨l, a⟩ := q
   obtain ⟨g1, g2, g3⟩ := emb_side E hL hi hs
   rw [hs] at h
   simp only at h
   cases ha : arrowR L a with
   | error e => rw [ha] at h; cases h
   | ok q =>
     obtain ⟨d, k⟩ := q
     obtain ⟨k1, k2, k3⟩ := emb_arrow E ha
     rw [ha] at h
     simp only at h
     cases hs2 : sideR L k with
     | error e => rw [hs2] at h; cases h
     | ok q =>
       obtain ⟨r, m⟩ := q
       obtain ⟨m1, m2, m3⟩ := emb_side E hL k2 hs2
       rw [hs2] at h
       simp only at h
       have h7 := spaceP_ge L i
       have h8 := spaceP_ge L k
       by_cases hw : partP ⟨2, noName, [], d, l, r⟩ ≠ 0
       ·rw [if_pos hw] at h; cases h
       ·rw [if_neg hw] at h
        injection h with h; injection h with h3 h4; subst h3 h4
        refine ⟨by omega, m2, fun hj => ?_⟩
        unfold ruleR
        rw [g3 (by omega)]
        simp only
        rw [k3]
        simp only
        rw [m3 hj]
        simp only
        rw [if_neg hw]
theorem emb_pass (hL : RunesOk L) {i : Nat} {v : PartD} {j : Nat} (h : passR L i = .ok (v, j)) : i ≤ j ∧ j ≤ L.length ∧ (j < L.length → passR L' (p + i) = .ok (v, p + j)) := by
 unfold passR at h
 cases hn : needP L (i + 1) 58 with
 | error e => rw [hn] at h; cases h
 | ok a =>
   obtain ⟨ha, e1⟩ := emb_need E hn (by decide)
   have h0 := (needP_ok hn).1
   rw [hn] at h
   simp only at h
   have h5 := spaceP_ge L a
   have h6 := spaceP_le ha
   by_cases h91 : pk L (spaceP L a) = 91
   ·have hl : spaceP L a < L.length := pk_lt (by omega)
    rw [if_pos h91] at h
    cases hs : setP' L 20 (spaceP L a) with
    | error e => rw [hs] at h; cases h
    | ok q =>
      obtain ⟨s, k⟩ := q
      obtain ⟨k0, k1, k2⟩ := emb_set E hL 20 _ _ _ hs
      rw [hs] at h
      simp only at h
      injection h with h; injection h with h3 h4; subst h3 h4
      refine ⟨by omega, k1, fun hj => ?_⟩
      unfold passR
      rw [show p + i + 1 = p + (i + 1) from rfl, e1]
      simp only
      rw [emb_space E _ a rfl ha (.inl hl), E.pk hl, if_pos h91, k2]
   ·rw [if_neg h91] at h
    by_cases hb : passB (wordT L (spaceP L a)) = true
    ·rw [if_pos hb] at h
     injection h with h; injection h with h3 h4; subst h3 h4
     have h7 := wordEnd_ge L (spaceP L a)
     refine ⟨by omega, wordEnd_le h6, fun hj => ?_⟩
     have hl : spaceP L a < L.length := by omega
     unfold passR
     rw [show p + i + 1 = p + (i + 1) from rfl, e1]
     simp only
     rw [emb_space E _ a rfl ha (.inl hl), E.pk hl, if_neg h91, emb_wordT E h6, if_pos hb, emb_wordEnd E h6]
    ·rw [if_neg hb] at h; cases h
theorem emb_var (hL : RunesOk L) {i : Nat} {v : PartD} {j : Nat} (hi : i < L.length) (h : varR L i = .ok (v, j)) : i ≤ j ∧ j ≤ L.length ∧ (j < L.length → varR L' (p + i) = .ok (v, p + j)) := by
 unfold varR at h
 cases hn : nameP L (i + 1) with
 | error e => rw [hn] at h; cases h
 | ok q =>
   obtain ⟨s, a⟩ := q
   obtain ⟨ha, e1⟩ := emb_name E hi _ _ hn
   have h0 := (nameP_ok hn).1
   rw [hn] at h
   simp only at h
   cases hq : needP L (spaceP L a) 61 with
   | error e => rw [hq] at h; cases h
   | ok k =>
     obtain ⟨hk, e2⟩ := emb_need E hq (by decide)
     have h1 := (needP_ok hq).1
     have h2 := spaceP_ge L a
     rw [hq] at h
     simp only at h
     cases hs : setP' L 20 (spaceP L k) with
     | error e => rw [hs] at h; cases h
     | ok q =>
       obtain ⟨t, m⟩ := q
       obtain ⟨k0, k1, k2⟩ := emb_set E hL 20 _ _ _ hs
       have h4 := spaceP_ge L k
       rw [hs] at h
       simp only at h
       injection h with h; injection h with h3 h5; subst h3 h5
       refine ⟨by omega, k1, fun hj => ?_⟩
       unfold varR
       rw [show p + i + 1 = p + (i + 1) from rfl, e1]
       simp only
       rw [emb_space E _ a rfl ha (.inl (by omega)), e2]
       simp only
       rw [emb_space E _ k rfl hk (.inl (by omega)), k2]
end
theorem side_dollar {L : List Int} (hL : RunesOk L) {i : Nat} {v : SideD} {j : Nat} (h36 : pk L i = 36) (h : sideR L i = .ok (v, j)) : j = i ∨ spaceP L (wordEnd L (i + 1)) ≤ j := by
 have E : Emb 0 L L := ⟨fun k _ => by rw [Nat.zero_add], .inr (.inr (by rw [Nat.zero_add]; exact pk_end (Nat.le_refl _)))⟩
 have e0 : spaceP L i = i := spaceP_at (by rw [h36]; decide) (by rw [h36]; decide)
 have hl : i < L.length := pk_lt (by omega)
 unfold sideR at h
 rw [e0, if_neg (by rw [h36]; decide), show decide (pk L i = 94) = false by rw [h36]; decide] at h
 unfold headR at h
 cases hi : itemsR L i with
 | error e => rw [hi] at h; cases h
 | ok q =>
   obtain ⟨⟨l, c⟩, j1⟩ := q
   have hj1 := emb_itemsR E hL (Nat.le_of_lt hl) hi
   have key : j1 = i ∨ spaceP L (wordEnd L (i + 1)) ≤ j1 := by
    unfold itemsR at hi
    rw [itemsF, e0] at hi
    unfold elemP at hi
    rw [if_neg (by rw [h36]; decide), if_neg (by rw [h36]; decide)] at hi
    by_cases hc : pk L i = 36 ∧ letB (pk L (i + 1)) = true
    ·rw [if_pos hc] at hi
     cases hs : nameP L (i + 1) with
     | error e => rw [hs] at hi; cases hi
     | ok q =>
       obtain ⟨s, k⟩ := q
       have hk := (nameP_ok hs).2.2.2
       rw [hs] at hi
       simp only at hi
       split at hi
       ·cases hi
       ·have := items_sp hL _ _ _ _ _ _ hi
        rw [hk] at this
        exact .inr this
    ·rw [if_neg hc, if_neg (by rw [h36]; decide), if_neg (by rw [h36]; decide)] at hi
     simp only at hi
     injection hi with hi; injection hi with h3 h4
     exact .inl h4.symm
   rw [hi] at h
   simp only at h
   rcases key with rfl | key
   ·rw [if_neg (by rw [h36]; decide), if_neg (by decide)] at h
    simp only at h
    unfold tailR at h
    rw [if_neg (by rw [h36]; decide)] at h
    simp only at h
    injection h with h; injection h with h3 h4
    rw [e0] at h4
    exact .inl h4.symm
   ·right
    have up : ∀ (r : Rdg (List ItemD × List ItemD × Int)), (match r with | .error e => Except.error e | .ok ((b, s, c), j) => match tailR L j with | .error e => .error e | .ok ((a, fin), k) => .ok ((⟨false, fin, b, s, a, c⟩ : SideD), spaceP L k)) = .ok (v, j) → (∀ x k, r = .ok (x, k) → j1 ≤ k ∧ k ≤ L.length) → j1 ≤ j := by
     intro r hr hk
     cases r with
     | error e => cases hr
     | ok q =>
       obtain ⟨⟨b, s, c⟩, k⟩ := q
       obtain ⟨hk1, hk2⟩ := hk _ _ rfl
       simp only at hr
       cases ht : tailR L k with
       | error e => rw [ht] at hr; cases hr
       | ok q =>
         obtain ⟨⟨a, fin⟩, m⟩ := q
         have hm := (emb_tail E hL hk2 ht).1
         rw [ht] at hr
         simp only at hr
         injection hr with hr; injection hr with h3 h4
         have := spaceP_ge L m
         omega
    refine Nat.le_trans key (up _ h ?_)
    intro x k hk
    split at hk
    ·rename_i h123
     have hl1 : j1 < L.length := pk_lt (by omega)
     split at hk
     ·cases hk
     ·cases hi2 : itemsR L (j1 + 1) with
      | error e => rw [hi2] at hk; cases hk
      | ok q =>
        obtain ⟨⟨l2, c2⟩, j2⟩ := q
        have := emb_itemsR E hL hl1 hi2
        rw [hi2] at hk
        simp only at hk
        injection hk with hk; injection hk with h3 h4
        omega
    ·rw [if_neg (by decide)] at hk
     injection hk with hk; injection hk with h3 h4
     omega
theorem emb_partR {p : Nat} {L L' : List Int} (E : Emb p L L') (hL : RunesOk L) {i : Nat} {v : PartD} {j : Nat} (hi : i ≤ L.length) (h : partR L i = .ok (v, j)) : i ≤ j ∧ j ≤ L.length ∧ (j < L.length → partR L' (p + i) = .ok (v, p + j)) := by
 unfold partR at h
 by_cases h58 : pk L i = 58
 ·rw [if_pos h58] at h
  have hl : i < L.length := pk_lt (by omega)
  obtain ⟨g1, g2, g3⟩ := emb_pass E hL h
  refine ⟨g1, g2, fun hj => ?_⟩
  unfold partR
  rw [E.pk hl, if_pos h58]
  exact g3 hj
 ·rw [if_neg h58] at h
  by_cases h36 : pk L i = 36 ∧ pk L (spaceP L (wordEnd L (i + 1))) = 61
  ·rw [if_pos h36] at h
   have hl : i < L.length := pk_lt (by omega)
   have hl2 : spaceP L (wordEnd L (i + 1)) < L.length := pk_lt (by omega)
   obtain ⟨g1, g2, g3⟩ := emb_var E hL hl h
   refine ⟨g1, g2, fun hj => ?_⟩
   unfold partR
   rw [E.pk hl, if_neg h58, show p + i + 1 = p + (i + 1) from rfl, emb_wordEnd E hl, emb_space E _ _ rfl (wordEnd_le hl) (.inl hl2), E.pk hl2, if_pos h36]
   exact g3 hj
  ·rw [if_neg h36] at h
   obtain ⟨g1, g2, g3⟩ := emb_rule E hL hi h
   refine ⟨g1, g2, fun hj => ?_⟩
   have hl : i < L.length := by omega
   unfold partR
   rw [E.pk hl, if_neg h58, if_neg]
   ·exact g3 hj
   ·rintro ⟨x1, x2⟩
    rw [show p + i + 1 = p + (i + 1) from rfl, emb_wordEnd E hl] at x2
    rcases Nat.lt_or_ge (spaceP L (wordEnd L (i + 1))) L.length with hs | hs
    ·rw [emb_space E _ _ rfl (wordEnd_le hl) (.inl hs), E.pk hs] at x2
     exact h36 ⟨x1, x2⟩
    ·unfold ruleR at h
     cases hsd : sideR L i with
     | error e => rw [hsd] at h; cases h
     | ok q =>
       obtain ⟨l, a⟩ := q
       rw [hsd] at h
       simp only at h
       cases ha : arrowR L a with
       | error e => rw [ha] at h; cases h
       | ok q =>
         obtain ⟨d, k⟩ := q
         have hk := (emb_arrow E ha)
         rcases side_dollar hL x1 hsd with rfl | hge
         ·unfold arrowR at ha
          rw [if_neg (by omega), if_neg (fun x => by have := x.1; omega), needP_not (by omega)] at ha
          cases ha
         ·omega
theorem partR_le {L : List Int} (hL : RunesOk L) {i : Nat} {v : PartD} {j : Nat} (hi : i ≤ L.length) (h : partR L i = .ok (v, j)) : i ≤ j ∧ j ≤ L.length := by
 have E : Emb 0 L L := ⟨fun k _ => by rw [Nat.zero_add], .inr (.inr (by rw [Nat.zero_add]; exact pk_end (Nat.le_refl _)))⟩
 exact ⟨(emb_partR E hL hi h).1, (emb_partR E hL hi h).2.1⟩
end Go.Proofs.YthnhbcohfoodlaaGreatDoor

namespace Go.Proofs.YthnhbcohfoodlaaGreatDoor
open Go.RowKit
set_option maxRecDepth 100000 in
set_option maxHeartbeats 1600000 in
theorem rulesyn_wrong (A : Option Addr) (n c : Nat) (l : List PartD) (w : World) (hn : n ≤ maxLen) (hl : RdP w w.heap.size A n l) :
 Calls Tryz.prog 30 #[.slice A n c] w fun e w' => e = .returned (.agg #[.int .i64 (fileP l).1, .int .i64 (fileP l).2]) ∧ Below w.heap.size w w' := by
 have HLEN := Lib.hid (RdL.len hl)
 have HL := Lib.hid hl
 have hn2 : n ≤ 9223372036854775807 := by unfold maxLen at hn; omega
 clear hl hn
 by_cases h20 : 200 < n
 ·have HP := Lib.hid (show fileP l = (5, 0) by unfold fileP; rw [if_pos (by rw [HLEN.out]; exact h20)])
  go_enter Tryz.func30, Tryz.ntmps30
  go_wp2_with fail
  rw [HP.out]
  exact bodyPost_ret (v := .agg #[.int .i64 5, .int .i64 0]) (by simp [results, Tryz.results30, go_sem]) rfl ⟨rfl, (Below.refl _ _).alloc (Nat.le_refl _) _⟩
 ·have HP := Lib.hid (show fileP l = fileGo 0 l by unfold fileP; rw [if_neg (by rw [HLEN.out]; exact h20)])
  go_enter Tryz.func30, Tryz.ntmps30
  go_wp2_with fail
  go_loopw [12] (WrRel w l n) (fun i _ => n - (intOf i).toNat)
  case atStart => exact ⟨0, Nat.zero_le _, rfl, rfl, Blk.new _ _ _, (Below.refl _ _).alloc (Nat.le_refl _) _⟩
  case round =>
   obtain ⟨k, hk, rfl, hgo, hres, hb⟩ := hrel
   have hz := hb.size
   have hlt0 := hres.lt
   by_cases hlt : k < n
   ·obtain ⟨p, hp⟩ : ∃ z, l[k]? = some z := ⟨_, List.getElem?_eq_getElem (by rw [HLEN.out]; exact hlt)⟩
    rw [drop_at hp, fileGo] at hgo
    obtain ⟨b, off, A', n', c', L1, L2, L3, R1, R2, R3, a1, a2, a3, x1, x2, x3, b1, b2, b3, y1, y2, y3, rfl, hbb, ⟨f0, f1, f2, f3, f4, f5, f6, f7, f8, f9, f10, f11, f12, f13, f14, f15⟩, hs, hn', l1, l2, l3, la1, la2, la3, r1, r2, r3, ra1, ra2, ra3, cl, cr, hm⟩ := part_at HL.out hp
    have d0 := (hb.cell (p := ⟨b, off + k * 16, none⟩) hbb).trans f0
    have d1 := (hb.cell (p := ⟨b, off + k * 16 + 1, none⟩) hbb).trans f1
    have d2 := (hb.cell (p := ⟨b, off + k * 16 + 2, none⟩) hbb).trans f2
    have d3 := (hb.cell (p := ⟨b, off + k * 16 + 3, none⟩) hbb).trans f3
    have d4 := (hb.cell (p := ⟨b, off + k * 16 + 4, none⟩) hbb).trans f4
    have d5 := (hb.cell (p := ⟨b, off + k * 16 + 5, none⟩) hbb).trans f5
    have d6 := (hb.cell (p := ⟨b, off + k * 16 + 6, none⟩) hbb).trans f6
    have d7 := (hb.cell (p := ⟨b, off + k * 16 + 7, none⟩) hbb).trans f7
    have d8 := (hb.cell (p := ⟨b, off + k * 16 + 8, none⟩) hbb).trans f8
    have d9 := (hb.cell (p := ⟨b, off + k * 16 + 9, none⟩) hbb).trans f9
    have d10 := (hb.cell (p := ⟨b, off + k * 16 + 10, none⟩) hbb).trans f10
    have d11 := (hb.cell (p := ⟨b, off + k * 16 + 11, none⟩) hbb).trans f11
    have d12 := (hb.cell (p := ⟨b, off + k * 16 + 12, none⟩) hbb).trans f12
    have d13 := (hb.cell (p := ⟨b, off + k * 16 + 13, none⟩) hbb).trans f13
    have d14 := (hb.cell (p := ⟨b, off + k * 16 + 14, none⟩) hbb).trans f14
    have d15 := (hb.cell (p := ⟨b, off + k * 16 + 15, none⟩) hbb).trans f15
    have HI := Lib.hid (fun w' (hw : Below w.heap.size w w') => rulesyn_part p A' n' c' L1 L2 L3 R1 R2 R3 a1 a2 a3 x1 x2 x3 b1 b2 b3 y1 y2 y3 w' (Rd.more (Rd.below hs hw) hw.size) hn' (rdit_below l1 hw) (rdit_below l2 hw) (rdit_below l3 hw) la1 la2 la3 (rdit_below r1 hw) (rdit_below r2 hw) (rdit_below r3 hw) ra1 ra2 ra3)
    clear f0 f1 f2 f3 f4 f5 f6 f7 f8 f9 f10 f11 f12 f13 f14 f15 hs hn' l1 l2 l3 la1 la2 la3 r1 r2 r3 ra1 ra2 ra3 cl cr hm
    have HB1 := Lib.hid (hb.alloc hz (.cells #[.int .i64 p.kind, .string p.name, .slice A' n' c', .int .i64 p.dir, .bool p.left.start, .bool p.left.fin, .slice L1 a1 x1, .slice L2 a2 x2, .slice L3 a3 x3, .int .i64 p.left.cursor, .bool p.right.start, .bool p.right.fin, .slice R1 b1 y1, .slice R2 b2 y2, .slice R3 b3 y3, .int .i64 p.right.cursor] 98))
    have HK1 := Lib.hid (hres.alloc (.cells #[.int .i64 p.kind, .string p.name, .slice A' n' c', .int .i64 p.dir, .bool p.left.start, .bool p.left.fin, .slice L1 a1 x1, .slice L2 a2 x2, .slice L3 a3 x3, .int .i64 p.left.cursor, .bool p.right.start, .bool p.right.fin, .slice R1 b1 y1, .slice R2 b2 y2, .slice R3 b3 y3, .int .i64 p.right.cursor] 98))
    by_cases hi : partP p = 0
    ·rw [if_pos hi] at hgo
     have HG := Lib.hid hgo
     clear hgo hres
     go_wp2_with fail
     refine (HI.out _ HB1.out).mono ?_
     rintro e w2 ⟨rfl, hb2⟩
     rw [hi]
     have hk2 := Blk.below HK1.out hb2 HK1.out.lt
     have hb3 := HB1.out.trans (hb2.mono HB1.out.size)
     have HK3 := Lib.hid hk2
     have HB3 := Lib.hid hb3
     clear hb2 hb3 hk2
     go_wp2_with fail
     exact ⟨⟨k + 1, by omega, by go_num, HG.out, HK3.out, HB3.out⟩, by simp [intOf]; omega⟩
    ·rw [if_neg hi] at hgo
     have hi2 : (partP p != 0) = true := by simpa using hi
     have HG := Lib.hid hgo
     clear hgo hres hi
     go_wp2_with fail
     refine (HI.out _ HB1.out).mono ?_
     rintro e w2 ⟨rfl, hb2⟩
     have hk2 := Blk.below HK1.out hb2 HK1.out.lt
     have hb3 := HB1.out.trans (hb2.mono HB1.out.size)
     have q0 : w2.cell? ⟨w.heap.size, 0, none⟩ = some (.int .i64 0) := hk2.cell 0
     have q1 : w2.cell? ⟨w.heap.size, 1, none⟩ = some (.int .i64 0) := hk2.cell 1
     have q2 := hk2.frozen 0
     have q3 := hk2.frozen 1
     have HB3 := Lib.hid hb3
     clear hb2 hb3 hk2
     go_wp2_with fail
     rw [HP.out, HG.out]
     exact bodyPost_ret (v := .agg #[.int .i64 (partP p), .int .i64 k]) (by simp [results, Tryz.results30, go_sem, q0, q1]) rfl ⟨rfl, (HB3.out.setCell (by simp) _).setCell (by simp) _⟩
   ·obtain rfl : k = n := by omega
    rw [List.drop_of_length_le (by rw [HLEN.out]; omega)] at hgo
    have HG := Lib.hid (hgo.trans (show fileGo k [] = (0, 0) from rfl))
    have q0 : wr.cell? ⟨w.heap.size, 0, none⟩ = some (.int .i64 0) := hres.cell 0
    have q1 : wr.cell? ⟨w.heap.size, 1, none⟩ = some (.int .i64 0) := hres.cell 1
    have q2 := hres.frozen 0
    have q3 := hres.frozen 1
    clear hgo hres
    go_wp2_with fail
    rw [HP.out, HG.out]
    exact bodyPost_ret (v := .agg #[.int .i64 0, .int .i64 0]) (by simp [results, Tryz.results30, go_sem, q0, q1]) rfl ⟨rfl, (hb.setCell (by simp) _).setCell (by simp) _⟩
end Go.Proofs.YthnhbcohfoodlaaGreatDoor
