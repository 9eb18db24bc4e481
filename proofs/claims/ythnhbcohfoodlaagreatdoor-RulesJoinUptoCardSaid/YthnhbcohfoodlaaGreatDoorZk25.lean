/- RulesP + RulesMono + RulesEmb + RulesEmb2 -/
import Derived.Test.YthnhbcohfoodlaaGreatDoorZk13
import Derived.Test.YthnhbcohfoodlaaGreatDoorZk15
import Derived.Test.YthnhbcohfoodlaaGreatDoorZk23
namespace Go.Proofs.YthnhbcohfoodlaaGreatDoor
open Go.RowKit
def remB (r : Int) : Bool := decide (0 ≤ r) && !decide (r = 10)
def spaceF (L : List Int) : Nat → Nat → Nat
  | 0, i => skipP L i
  | f + 1, i => if pk L (skipP L i) = 35 then spaceF L f (runFrom remB L (skipP L i)) else skipP L i
def spaceP (L : List Int) (i : Nat) : Nat := spaceF L (L.length + 1) i
def letB (r : Int) : Bool := (decide (97 ≤ r) && decide (r ≤ 122)) || decide (r = 95)
def digB (r : Int) : Bool := decide (48 ≤ r) && decide (r ≤ 57)
def wordEnd (L : List Int) (i : Nat) : Nat := if letB (pk L i) = true then runFrom (fun r => letB r || digB r) L i else i
def wordT (L : List Int) (i : Nat) : ByteArray := runesBytes (textAt L i (wordEnd L i))
def nameP (L : List Int) (i : Nat) : Rdg ByteArray := if namedP (wordT L i) = true then .ok (wordT L i, wordEnd L i) else .error (7, i)
def notQ (r : Int) : Bool := decide (0 ≤ r) && !decide (r = 39)
def noName : ByteArray := ⟨#[]⟩
def runeI (x : Int) : ItemD := ⟨1, x, [], noName⟩
def quotedP (L : List Int) (i : Nat) : Rdg (List ItemD) :=
  if pk L (runFrom notQ L (i + 1)) = 39 then .ok ((textAt L (i + 1) (runFrom notQ L (i + 1))).map runeI, runFrom notQ L (i + 1) + 1) else .error (2, runFrom notQ L (i + 1))
def elemP (L : List Int) (a : Nat) (out : List ItemD) (cur : Int) : Except (Int × Nat) (Option ((List ItemD × Int) × Nat)) :=
  if pk L a = 124 then (if 0 ≤ cur then .error (5, a) else .ok (some ((out, (out.length : Int)), a + 1)))
  else if pk L a = 91 then match setP' L 20 a with | .error e => .error e | .ok (s, j) => .ok (some ((out ++ [⟨2, 0, s, noName⟩], cur), j))
  else if pk L a = 36 ∧ letB (pk L (a + 1)) = true then match nameP L (a + 1) with | .error e => .error e | .ok (s, j) => .ok (some ((out ++ [⟨3, 0, [], s⟩], cur), j))
  else if pk L a = 39 then match quotedP L a with | .error e => .error e | .ok (l, j) => .ok (some ((out ++ l, cur), j))
  else if pk L a = 92 ∨ plainB (pk L a) = true then match charP L a with | .error e => .error e | .ok (x, j) => if rightB x = true then .ok (some ((out ++ [runeI x], cur), j)) else .error (3, a)
  else .ok none
def itemsF (L : List Int) : Nat → Nat → List ItemD → Int → Rdg (List ItemD × Int)
  | 0, i, _, _ => .error (2, i)
  | f + 1, i, out, cur => match elemP L (spaceP L i) out cur with
    | .error e => .error e
    | .ok none => .ok ((out, cur), spaceP L i)
    | .ok (some ((o, c), j)) => if 20 < o.length then .error (5, spaceP L i) else itemsF L f j o c
def itemsR (L : List Int) (i : Nat) : Rdg (List ItemD × Int) := itemsF L (L.length + 1) i [] (-1)
def headR (L : List Int) (start : Bool) (a : Nat) : Rdg (List ItemD × List ItemD × Int) :=
  match itemsR L a with
  | .error e => .error e
  | .ok ((l, c), j) =>
    if pk L j = 123 then (if 0 ≤ c then .error (8, a) else match itemsR L (j + 1) with | .error e => .error e | .ok ((l2, c2), j2) => .ok ((l, l2, c2), j2))
    else if start = true then .error (2, j) else .ok (([], l, c), j)
def tailR (L : List Int) (j : Nat) : Rdg (List ItemD × Bool) :=
  if pk L j = 125 then match itemsR L (j + 1) with
    | .error e => .error e
    | .ok ((l, c), k) => if 0 ≤ c then .error (8, j + 1) else if pk L k = 36 then .ok ((l, true), k + 1) else .ok ((l, false), k)
  else .ok (([], false), j)
def sideR (L : List Int) (i : Nat) : Rdg SideD :=
  match headR L (decide (pk L (spaceP L i) = 94)) (if pk L (spaceP L i) = 94 then spaceP L i + 1 else spaceP L i) with
  | .error e => .error e
  | .ok ((b, s, c), j) => match tailR L j with
    | .error e => .error e
    | .ok ((a, fin), k) => .ok (⟨decide (pk L (spaceP L i) = 94), fin, b, s, a, c⟩, spaceP L k)
def arrowR (L : List Int) (i : Nat) : Rdg Int :=
  if pk L i = 62 then .ok (1, i + 1) else if pk L i = 60 ∧ pk L (i + 1) = 62 then .ok (3, i + 2)
  else match needP L i 60 with | .error e => .error e | .ok j => .ok (2, j)
def noSide : SideD := ⟨false, false, [], [], [], 0⟩
def ruleR (L : List Int) (i : Nat) : Rdg PartD :=
  match sideR L i with
  | .error e => .error e
  | .ok (l, j) => match arrowR L j with
    | .error e => .error e
    | .ok (d, k) => match sideR L k with
      | .error e => .error e
      | .ok (r, m) => if partP ⟨2, noName, [], d, l, r⟩ ≠ 0 then .error (partP ⟨2, noName, [], d, l, r⟩, i) else .ok (⟨2, noName, [], d, l, r⟩, m)
def passR (L : List Int) (i : Nat) : Rdg PartD :=
  match needP L (i + 1) 58 with
  | .error e => .error e
  | .ok j =>
    if pk L (spaceP L j) = 91 then match setP' L 20 (spaceP L j) with | .error e => .error e | .ok (s, k) => .ok (⟨3, noName, s, 0, noSide, noSide⟩, k)
    else if passB (wordT L (spaceP L j)) = true then .ok (⟨4, wordT L (spaceP L j), [], 0, noSide, noSide⟩, wordEnd L (spaceP L j)) else .error (7, spaceP L j)
def varR (L : List Int) (i : Nat) : Rdg PartD :=
  match nameP L (i + 1) with
  | .error e => .error e
  | .ok (s, j) => match needP L (spaceP L j) 61 with
    | .error e => .error e
    | .ok k => match setP' L 20 (spaceP L k) with | .error e => .error e | .ok (t, m) => .ok (⟨1, s, t, 0, noSide, noSide⟩, m)
def partR (L : List Int) (i : Nat) : Rdg PartD :=
  if pk L i = 58 then passR L i
  else if pk L i = 36 ∧ pk L (spaceP L (wordEnd L (i + 1))) = 61 then varR L i
  else ruleR L i
def fileF (L : List Int) : Nat → Nat → List PartD → Except (Int × Nat) (List PartD)
  | 0, i, _ => .error (2, i)
  | f + 1, i, l =>
    if pk L (spaceP L i) < 0 then .ok l
    else if l.length = 200 then .error (5, spaceP L i)
    else match partR L (spaceP L i) with
      | .error e => .error e
      | .ok (p, j) => match needP L (spaceP L j) 59 with
        | .error e => .error e
        | .ok k => fileF L f k (l ++ [p])
def rulesP (L : List Int) : List PartD × (Int × Int) :=
  if 16000 < L.length then ([], (4, 0))
  else match fileF L (L.length + 1) 0 [] with
    | .error (e, p) => ([], (e, (p : Int)))
    | .ok l => (l, (0, 0))
end Go.Proofs.YthnhbcohfoodlaaGreatDoor

namespace Go.Proofs.YthnhbcohfoodlaaGreatDoor
open Go.RowKit
theorem spaceF_ge (L : List Int) : ∀ f i, i ≤ spaceF L f i := by
  intro f
  induction f with
  | zero => exact fun i => skipP_ge L i
  | succ f ih =>
    intro i
    rw [spaceF]
    split
    · exact Nat.le_trans (skipP_ge L i) (Nat.le_trans (runFrom_ge _ _ _) (ih _))
    · exact skipP_ge L i
theorem skipP_le {L : List Int} {i : Nat} (h : i ≤ L.length) : skipP L i ≤ L.length := (runFrom_le h).2
theorem spaceF_le (L : List Int) : ∀ f i, i ≤ L.length → spaceF L f i ≤ L.length := by
  intro f
  induction f with
  | zero => exact fun i h => skipP_le h
  | succ f ih =>
    intro i h
    rw [spaceF]
    split
    · exact ih _ (runFrom_le (skipP_le h)).2
    · exact skipP_le h
theorem spaceP_ge (L : List Int) (i : Nat) : i ≤ spaceP L i := spaceF_ge L _ i
theorem spaceP_le {L : List Int} {i : Nat} (h : i ≤ L.length) : spaceP L i ≤ L.length := spaceF_le L _ i h
theorem wordEnd_ge (L : List Int) (i : Nat) : i ≤ wordEnd L i := by
  unfold wordEnd
  split
  · exact runFrom_ge _ _ _
  · exact Nat.le_refl _
theorem wordEnd_le {L : List Int} {i : Nat} (h : i ≤ L.length) : wordEnd L i ≤ L.length := by
  unfold wordEnd
  split
  · exact (runFrom_le h).2
  · exact h
theorem nameP_ok {L : List Int} {i j : Nat} {s : ByteArray} (h : nameP L i = .ok (s, j)) : i < j ∧ namedP s = true ∧ s = wordT L i ∧ j = wordEnd L i := by
  unfold nameP at h
  split at h
  · rename_i hn
    injection h with h
    injection h with h1 h2
    subst h1 h2
    refine ⟨?_, hn, rfl, rfl⟩
    rcases Nat.lt_or_ge i (wordEnd L i) with hl | hl
    · exact hl
    · have he : wordEnd L i = i := Nat.le_antisymm hl (wordEnd_ge L i)
      have ht : wordT L i = runesBytes [] := by
        unfold wordT textAt
        rw [he, Nat.sub_self]
        rfl
      rw [ht] at hn
      exact absurd hn (by unfold namedP; simp [show (runesBytes []).size = 0 from rfl])
  · cases h
theorem quotedP_ok {L : List Int} {i j : Nat} {l : List ItemD} (h : quotedP L i = .ok (l, j)) : i + 1 < j ∧ j ≤ L.length := by
  unfold quotedP at h
  split at h
  · rename_i hn
    injection h with h
    injection h with h1 h2
    have hlt := pk_lt (L := L) (i := runFrom notQ L (i + 1)) (by omega)
    have := runFrom_ge notQ L (i + 1)
    omega
  · cases h
theorem elemP_ok {L : List Int} (hL : RunesOk L) {a j : Nat} {out o : List ItemD} {cur c : Int} (h : elemP L a out cur = .ok (some ((o, c), j))) : a < j ∧ out.length ≤ o.length := by
  unfold elemP at h
  split at h
  · split at h
    · cases h
    · injection h with h; injection h with h; injection h with h1 h2; injection h1 with h1 h3
      subst h1 h2
      exact ⟨by omega, Nat.le_refl _⟩
  · split at h
    · split at h
      · cases h
      · rename_i s j' hs
        injection h with h; injection h with h; injection h with h1 h2; injection h1 with h1 h3
        subst h1 h2
        exact ⟨(setP_ok hL 20 _ _ _ hs).1, by simp⟩
    · split at h
      · split at h
        · cases h
        · rename_i s j' hs
          injection h with h; injection h with h; injection h with h1 h2; injection h1 with h1 h3
          subst h1 h2
          have := (nameP_ok hs).1
          exact ⟨by omega, by simp⟩
      · split at h
        · split at h
          · cases h
          · rename_i s j' hs
            injection h with h; injection h with h; injection h with h1 h2; injection h1 with h1 h3
            subst h1 h2
            have := (quotedP_ok hs).1
            exact ⟨by omega, by simp⟩
        · split at h
          · split at h
            · cases h
            · rename_i x j' hs
              split at h
              · injection h with h; injection h with h; injection h with h1 h2; injection h1 with h1 h3
                subst h1 h2
                exact ⟨(charP_ok hL hs).1, by simp⟩
              · cases h
          · injection h with h; cases h
end Go.Proofs.YthnhbcohfoodlaaGreatDoor

namespace Go.Proofs.YthnhbcohfoodlaaGreatDoor
open Go.RowKit
structure Emb (p : Nat) (L L' : List Int) : Prop where
  here : ∀ k, k < L.length → L'[p + k]? = L[k]?
  stop : pk L' (p + L.length) = 10 ∨ pk L' (p + L.length) = 32 ∨ pk L' (p + L.length) = -1
def EmbR {α : Type} (p : Nat) (L : List Int) (r r' : Rdg α) : Prop := ∀ v j, r = .ok (v, j) → j ≤ L.length ∧ r' = .ok (v, p + j)
section
variable {p : Nat} {L L' : List Int} (E : Emb p L L')
include E
theorem Emb.pk {k : Nat} (hk : k < L.length) : pk L' (p + k) = pk L k := by
  unfold Go.Proofs.YthnhbcohfoodlaaGreatDoor.pk
  rw [E.here k hk]
theorem Emb.is {k : Nat} (hk : k ≤ L.length) {r : Int} (h1 : r ≠ 10) (h2 : r ≠ -1) (h3 : r ≠ 32) : Go.Proofs.YthnhbcohfoodlaaGreatDoor.pk L' (p + k) = r ↔ Go.Proofs.YthnhbcohfoodlaaGreatDoor.pk L k = r := by
  rcases Nat.lt_or_ge k L.length with hl | hl
  · rw [E.pk hl]
  · have hk : k = L.length := by omega
    subst hk
    rw [pk_end (Nat.le_refl _)]
    rcases E.stop with e | e | e <;> rw [e] <;> constructor <;> intro h' <;> omega
theorem Emb.lt {k : Nat} (hk : k < L.length) : p + k < L'.length := by
  have := E.here k hk
  rw [List.getElem?_eq_getElem hk] at this
  exact (List.getElem?_eq_some_iff.1 this).1
theorem Emb.len : L.length ≤ L'.length := by
  rcases Nat.eq_zero_or_pos L.length with h | h
  · omega
  · have := E.lt (k := L.length - 1) (by omega)
    omega
theorem Emb.run {q : Int → Bool} : ∀ (d i : Nat), L.length - i = d → i ≤ L.length → (runFrom q L i < L.length ∨ q (Go.Proofs.YthnhbcohfoodlaaGreatDoor.pk L' (p + L.length)) = false) → runFrom q L' (p + i) = p + runFrom q L i := by
  intro d
  induction d with
  | zero =>
    intro i hd hi hq
    have e : i = L.length := by omega
    subst e
    have e2 : runFrom q L L.length = L.length := runFrom_out (fun h => absurd h (Nat.lt_irrefl _))
    rw [e2] at hq ⊢
    rcases hq with hq | hq
    · omega
    · exact runFrom_out (fun _ => hq)
  | succ d ih =>
    intro i hd hi hq
    have hl : i < L.length := by omega
    cases hv : q (Go.Proofs.YthnhbcohfoodlaaGreatDoor.pk L i) with
    | true =>
      rw [runFrom_in hl hv] at hq ⊢
      rw [runFrom_in (E.lt hl) (by rw [E.pk hl]; exact hv), Nat.add_assoc]
      exact ih (i + 1) (by omega) (by omega) hq
    | false => rw [runFrom_out (fun _ => hv), runFrom_out (fun _ => by rw [E.pk hl]; exact hv)]
theorem Emb.run2 {q : Int → Bool} (h1 : q 10 = false) (h2 : q 32 = false) (h3 : q (-1) = false) {i : Nat} (hi : i ≤ L.length) : runFrom q L' (p + i) = p + runFrom q L i := by
  refine E.run _ i rfl hi (.inr ?_)
  rcases E.stop with e | e | e <;> rw [e] <;> assumption
theorem Emb.skip {i : Nat} (hi : i ≤ L.length) (h : skipP L i < L.length) : skipP L' (p + i) = p + skipP L i := E.run _ i rfl hi (.inl h)
theorem Emb.text {i j : Nat} (hj : j ≤ L.length) : textAt L' (p + i) (p + j) = textAt L i j := by
  unfold textAt
  rw [show p + j - (p + i) = j - i by omega]
  apply List.ext_getElem?
  intro k
  rcases Nat.lt_or_ge k (j - i) with hk | hk
  · rw [List.getElem?_take_of_lt hk, List.getElem?_take_of_lt hk, List.getElem?_drop, List.getElem?_drop, Nat.add_assoc]
    exact E.here _ (by omega)
  · rw [List.getElem?_take_eq_none hk, List.getElem?_take_eq_none hk]
theorem emb_need {i j : Nat} {r : Int} (h : needP L i r = .ok j) (hr : r ≠ -1) : j ≤ L.length ∧ needP L' (p + i) r = .ok (p + j) := by
  obtain ⟨rfl, hp⟩ := needP_ok h
  have hl : i < L.length := pk_lt (by rw [hp]; exact hr)
  refine ⟨hl, ?_⟩
  rw [needP_at (by rw [E.pk hl]; exact hp)]
  rfl
theorem emb_hex (i : Nat) : EmbR p L (hexP L i) (hexP L' (p + i)) := by
  intro v j h
  unfold hexP at h ⊢
  cases h1 : needP L (i + 1) 123 with
  | error e => rw [h1] at h; cases h
  | ok a =>
    obtain ⟨ha, e1⟩ := emb_need E h1 (by decide)
    rw [h1] at h
    rw [show p + i + 1 = p + (i + 1) from rfl, e1]
    simp only at h ⊢
    rw [E.run2 rfl rfl rfl ha, show p + runFrom hexB L a - (p + a) = runFrom hexB L a - a by omega]
    by_cases hn : runFrom hexB L a - a < 1 ∨ 6 < runFrom hexB L a - a
    · rw [if_pos hn] at h; cases h
    · rw [if_neg hn] at h ⊢
      cases h2 : needP L (runFrom hexB L a) 125 with
      | error e => rw [h2] at h; cases h
      | ok b =>
        obtain ⟨hb, e2⟩ := emb_need E h2 (by decide)
        rw [h2] at h
        rw [e2]
        simp only at h ⊢
        rw [E.text (runFrom_le ha).2]
        by_cases hm : 1114111 < hexVal (textAt L a (runFrom hexB L a))
        · rw [if_pos hm] at h; cases h
        · rw [if_neg hm] at h ⊢
          injection h with h
          injection h with h3 h4
          subst h3 h4
          exact ⟨hb, rfl⟩
theorem emb_char (i : Nat) : EmbR p L (charP L i) (charP L' (p + i)) := by
  intro v j h
  unfold charP at h ⊢
  by_cases hp : plainB (Go.Proofs.YthnhbcohfoodlaaGreatDoor.pk L i) = true
  · have hl : i < L.length := pk_lt (fun e => by rw [e] at hp; exact absurd hp (by decide))
    rw [if_pos hp] at h
    rw [E.pk hl, if_pos hp]
    injection h with h
    injection h with h3 h4
    subst h3 h4
    exact ⟨hl, rfl⟩
  · rw [if_neg hp] at h
    by_cases h92 : Go.Proofs.YthnhbcohfoodlaaGreatDoor.pk L i ≠ 92
    · rw [if_pos h92] at h; cases h
    · rw [if_neg h92] at h
      have hl : i < L.length := pk_lt (by omega)
      rw [E.pk hl, if_neg hp, if_neg h92]
      have hl1 : i + 1 < L.length := pk_lt (fun e => by rw [e] at h; simp at h)
      rw [show p + i + 1 = p + (i + 1) from rfl, E.pk hl1]
      by_cases c1 : Go.Proofs.YthnhbcohfoodlaaGreatDoor.pk L (i + 1) = 110
      · rw [if_pos c1] at h ⊢
        injection h with h; injection h with h3 h4; subst h3 h4
        exact ⟨hl1, rfl⟩
      · rw [if_neg c1] at h ⊢
        by_cases c2 : Go.Proofs.YthnhbcohfoodlaaGreatDoor.pk L (i + 1) = 116
        · rw [if_pos c2] at h ⊢
          injection h with h; injection h with h3 h4; subst h3 h4
          exact ⟨hl1, rfl⟩
        · rw [if_neg c2] at h ⊢
          by_cases c3 : Go.Proofs.YthnhbcohfoodlaaGreatDoor.pk L (i + 1) = 117
          · rw [if_pos c3] at h ⊢
            exact emb_hex E _ _ _ h
          · rw [if_neg c3] at h ⊢
            by_cases c4 : Go.Proofs.YthnhbcohfoodlaaGreatDoor.pk L (i + 1) < 0 ∨ alnB (Go.Proofs.YthnhbcohfoodlaaGreatDoor.pk L (i + 1)) = true
            · rw [if_pos c4] at h; cases h
            · rw [if_neg c4] at h ⊢
              injection h with h; injection h with h3 h4; subst h3 h4
              exact ⟨hl1, rfl⟩
theorem emb_span (i : Nat) : EmbR p L (spanP L i) (spanP L' (p + i)) := by
  intro v j h
  unfold spanP at h ⊢
  cases h1 : charP L i with
  | error e => rw [h1] at h; cases h
  | ok q =>
    obtain ⟨low, a⟩ := q
    obtain ⟨ha, e1⟩ := emb_char E _ _ _ h1
    rw [h1] at h
    rw [e1]
    simp only at h ⊢
    have c1 : (Go.Proofs.YthnhbcohfoodlaaGreatDoor.pk L' (p + a) = 45 ∧ Go.Proofs.YthnhbcohfoodlaaGreatDoor.pk L' (p + a + 1) ≠ 91) ↔ (Go.Proofs.YthnhbcohfoodlaaGreatDoor.pk L a = 45 ∧ Go.Proofs.YthnhbcohfoodlaaGreatDoor.pk L (a + 1) ≠ 91) := by
      rw [E.is ha (by decide) (by decide) (by decide)]
      refine and_congr_right (fun h45 => ?_)
      have hl : a < L.length := pk_lt (by omega)
      exact not_congr (E.is (k := a + 1) hl (by decide) (by decide) (by decide))
    by_cases hc : Go.Proofs.YthnhbcohfoodlaaGreatDoor.pk L a = 45 ∧ Go.Proofs.YthnhbcohfoodlaaGreatDoor.pk L (a + 1) ≠ 91
    · rw [if_pos hc] at h
      rw [if_pos (c1.2 hc)]
      cases h2 : charP L (a + 1) with
      | error e => rw [h2] at h; cases h
      | ok q =>
        obtain ⟨high, b⟩ := q
        obtain ⟨hb, e2⟩ := emb_char E _ _ _ h2
        rw [h2] at h
        rw [show p + a + 1 = p + (a + 1) from rfl, e2]
        simp only at h ⊢
        by_cases hh : high < low
        · rw [if_pos hh] at h; cases h
        · rw [if_neg hh] at h ⊢
          injection h with h; injection h with h3 h4; subst h3 h4
          exact ⟨hb, rfl⟩
    · rw [if_neg hc] at h
      rw [if_neg (fun x => hc (c1.1 x))]
      injection h with h; injection h with h3 h4; subst h3 h4
      exact ⟨ha, rfl⟩
theorem emb_class {i : Nat} (hi : i + 2 ≤ L.length) : EmbR p L (classP L i) (classP L' (p + i)) := by
  intro v j h
  unfold classP at h ⊢
  rw [show p + i + 2 = p + (i + 2) from rfl, E.run2 rfl rfl rfl hi, E.text (runFrom_le hi).2]
  cases h0 : classOf (textAt L (i + 2) (runFrom plainB L (i + 2))) with
  | none => rw [h0] at h; cases h
  | some s =>
    rw [h0] at h
    simp only at h ⊢
    cases h1 : needP L (runFrom plainB L (i + 2)) 58 with
    | error e => rw [h1] at h; cases h
    | ok a =>
      obtain ⟨ha, e1⟩ := emb_need E h1 (by decide)
      rw [h1] at h
      rw [e1]
      simp only at h ⊢
      cases h2 : needP L a 93 with
      | error e => rw [h2] at h; cases h
      | ok b =>
        obtain ⟨hb, e2⟩ := emb_need E h2 (by decide)
        rw [h2] at h
        rw [e2]
        simp only at h ⊢
        injection h with h; injection h with h3 h4; subst h3 h4
        exact ⟨hb, rfl⟩
def EmbI (p : Nat) (L : List Int) (inner inner' : Nat → Rdg Spans) : Prop := ∀ i s j, inner i = .ok (s, j) → i < j ∧ j ≤ L.length ∧ inner' (p + i) = .ok (s, p + j)
theorem emb_part {inner inner' : Nat → Rdg Spans} (hI : EmbI p L inner inner') (i : Nat) (s : Spans) (j : Nat) (h : partP' inner L i = .ok (s, j)) : i < L.length ∧ j ≤ L.length ∧ partP' inner' L' (p + i) = .ok (s, p + j) := by
  have hl : i < L.length := by
    refine pk_lt (fun e => ?_)
    unfold partP' at h
    rw [if_neg (fun x => by have := x.1; omega), if_neg (by omega), if_neg (by omega)] at h
    unfold spanP charP at h
    rw [e] at h
    simp [plainB] at h
  refine ⟨hl, ?_⟩
  unfold partP' at h ⊢
  rw [E.pk hl, show p + i + 1 = p + (i + 1) from rfl]
  have c1 := E.is (k := i + 1) hl (r := 58) (by decide) (by decide) (by decide)
  by_cases hc : Go.Proofs.YthnhbcohfoodlaaGreatDoor.pk L i = 91 ∧ Go.Proofs.YthnhbcohfoodlaaGreatDoor.pk L (i + 1) = 58
  · rw [if_pos hc] at h
    rw [if_pos ⟨hc.1, c1.2 hc.2⟩]
    have hl1 : i + 1 < L.length := pk_lt (by omega)
    exact emb_class E hl1 _ _ h
  · rw [if_neg hc] at h
    rw [if_neg (fun x => hc ⟨x.1, c1.1 x.2⟩)]
    by_cases h91 : Go.Proofs.YthnhbcohfoodlaaGreatDoor.pk L i = 91
    · rw [if_pos h91] at h ⊢
      exact (hI _ _ _ h).2
    · rw [if_neg h91] at h ⊢
      by_cases h38 : Go.Proofs.YthnhbcohfoodlaaGreatDoor.pk L i = 38 ∨ Go.Proofs.YthnhbcohfoodlaaGreatDoor.pk L i = 45
      · rw [if_pos h38] at h ⊢
        obtain ⟨g1, g2, g3⟩ := hI _ _ _ h
        rw [E.skip (i := i + 1) hl (by omega)]
        exact ⟨g2, g3⟩
      · rw [if_neg h38] at h ⊢
        cases h1 : spanP L i with
        | error e => rw [h1] at h; cases h
        | ok q =>
          obtain ⟨x, a⟩ := q
          obtain ⟨ha, e1⟩ := emb_span E _ _ _ h1
          rw [h1] at h
          rw [e1]
          simp only at h ⊢
          injection h with h; injection h with h3 h4; subst h3 h4
          exact ⟨ha, rfl⟩
theorem emb_parts {inner inner' : Nat → Rdg Spans} (hI : EmbI p L inner inner') : ∀ (f f' i : Nat) (cur s : Spans) (j : Nat), f ≤ f' → i ≤ L.length → partsP inner L f i cur = .ok (s, j) → j ≤ L.length ∧ partsP inner' L' f' (p + i) cur = .ok (s, p + j) := by
  intro f
  induction f with
  | zero => intro f' i cur s j _ _ h; unfold partsP at h; cases h
  | succ f ih =>
    intro f' i cur s j hf hi h
    obtain ⟨f', rfl⟩ : ∃ g, f' = g + 1 := ⟨f' - 1, by omega⟩
    rw [partsP] at h ⊢
    by_cases h93 : Go.Proofs.YthnhbcohfoodlaaGreatDoor.pk L (skipP L i) = 93
    · have hl : skipP L i < L.length := pk_lt (by omega)
      rw [if_pos h93] at h
      rw [E.skip hi hl, E.pk hl, if_pos h93]
      injection h with h; injection h with h3 h4; subst h3 h4
      exact ⟨hl, rfl⟩
    · rw [if_neg h93] at h
      cases h1 : partP' inner L (skipP L i) with
      | error e => rw [h1] at h; cases h
      | ok q =>
        obtain ⟨t, a⟩ := q
        obtain ⟨hl, ha, e1⟩ := emb_part E hI _ _ _ h1
        rw [h1] at h
        rw [E.skip hi hl, E.pk hl, if_neg h93, e1]
        simp only at h ⊢
        by_cases hw : (opP (opOf (Go.Proofs.YthnhbcohfoodlaaGreatDoor.pk L (skipP L i))) cur t).2 ≠ 0
        · rw [if_pos hw] at h; cases h
        · rw [if_neg hw] at h ⊢
          exact ih f' a _ _ _ (by omega) ha h
theorem emb_set (hL : RunesOk L) : ∀ n, EmbI p L (setP' L n) (setP' L' n) := by
  intro n
  induction n with
  | zero => intro i s j h; unfold setP' at h; cases h
  | succ n ih =>
    intro i s j h
    refine ⟨(setP_ok hL (n + 1) i s j h).1, ?_⟩
    rw [setP'] at h ⊢
    cases h1 : needP L i 91 with
    | error e => rw [h1] at h; cases h
    | ok a =>
      obtain ⟨ha, e1⟩ := emb_need E h1 (by decide)
      rw [h1] at h
      rw [e1]
      simp only at h ⊢
      have c1 := E.is ha (r := 94) (by decide) (by decide) (by decide)
      have hst : (if Go.Proofs.YthnhbcohfoodlaaGreatDoor.pk L' (p + a) = 94 then p + a + 1 else p + a) = p + (if Go.Proofs.YthnhbcohfoodlaaGreatDoor.pk L a = 94 then a + 1 else a) := by
        by_cases h94 : Go.Proofs.YthnhbcohfoodlaaGreatDoor.pk L a = 94
        · rw [if_pos h94, if_pos (c1.2 h94)]; rfl
        · rw [if_neg h94, if_neg (fun x => h94 (c1.1 x))]
      rw [hst]
      have hst2 : (if Go.Proofs.YthnhbcohfoodlaaGreatDoor.pk L a = 94 then a + 1 else a) ≤ L.length := by
        split
        · rename_i h94; exact pk_lt (by omega)
        · exact ha
      cases h2 : partsP (setP' L n) L (L.length + 1) (if Go.Proofs.YthnhbcohfoodlaaGreatDoor.pk L a = 94 then a + 1 else a) [] with
      | error e => rw [h2] at h; cases h
      | ok q =>
        obtain ⟨cur, k⟩ := q
        obtain ⟨hk, e2⟩ := emb_parts E ih _ (L'.length + 1) _ _ _ _ (by have := E.len; omega) hst2 h2
        rw [h2] at h
        rw [e2]
        simp only at h ⊢
        by_cases h94 : Go.Proofs.YthnhbcohfoodlaaGreatDoor.pk L a = 94
        · rw [if_pos h94] at h
          rw [if_pos (c1.2 h94)]
          by_cases hw : (opP 94 cur []).2 ≠ 0
          · rw [if_pos hw] at h; cases h
          · rw [if_neg hw] at h ⊢
            injection h with h; injection h with h3 h4; subst h3 h4
            exact ⟨hk, rfl⟩
        · rw [if_neg h94] at h
          rw [if_neg (fun x => h94 (c1.1 x))]
          injection h with h; injection h with h3 h4; subst h3 h4
          exact ⟨hk, rfl⟩
end
end Go.Proofs.YthnhbcohfoodlaaGreatDoor

namespace Go.Proofs.YthnhbcohfoodlaaGreatDoor
open Go.RowKit
theorem spaceF_enough (L : List Int) : ∀ f g i, L.length < f + i → L.length < g + i → spaceF L f i = spaceF L g i := by
  have key : ∀ g i, L.length < i → spaceF L g i = skipP L i := by
    intro g i h
    cases g with
    | zero => rfl
    | succ g =>
      rw [spaceF, if_neg]
      have e : skipP L i = i := runFrom_out (fun h2 => absurd h2 (by omega))
      rw [e, pk_end (by omega)]
      decide
  intro f
  induction f with
  | zero => intro g i h1 h2; rw [key 0 i (by omega), key g i (by omega)]
  | succ f ih =>
    intro g i h1 h2
    cases g with
    | zero => rw [key 0 i (by omega), key (f + 1) i (by omega)]
    | succ g =>
      rw [spaceF, spaceF]
      by_cases h35 : pk L (skipP L i) = 35
      · rw [if_pos h35, if_pos h35]
        have hl : skipP L i < L.length := pk_lt (by omega)
        have h3 := skipP_ge L i
        have h4 : skipP L i + 1 ≤ runFrom remB L (skipP L i) := by rw [runFrom_in hl (by rw [h35]; rfl)]; exact runFrom_ge _ _ _
        exact ih g _ (by omega) (by omega)
      · rw [if_neg h35, if_neg h35]
theorem rem_on {L : List Int} {k : Nat} (h35 : pk L k = 35) : k < L.length ∧ k + 1 ≤ runFrom remB L k := by
  have hl : k < L.length := pk_lt (by omega)
  exact ⟨hl, by rw [runFrom_in hl (by rw [h35]; rfl)]; exact runFrom_ge _ _ _⟩
theorem spaceP_eq (L : List Int) (i : Nat) : spaceP L i = if pk L (skipP L i) = 35 then spaceP L (runFrom remB L (skipP L i)) else skipP L i := by
  show spaceF L (L.length + 1) i = _
  rw [spaceF]
  by_cases h35 : pk L (skipP L i) = 35
  · rw [if_pos h35, if_pos h35]
    have := (rem_on h35).2
    exact spaceF_enough L _ _ _ (by omega) (by omega)
  · rw [if_neg h35, if_neg h35]
theorem spaceP_at {L : List Int} {i : Nat} (h1 : blankB (pk L i) = false) (h2 : pk L i ≠ 35) : spaceP L i = i := by
  have e : skipP L i = i := runFrom_out (fun _ => h1)
  rw [spaceP_eq, e, if_neg h2]
theorem items_sp {L : List Int} (hL : RunesOk L) : ∀ (f i : Nat) (out : List ItemD) (cur : Int) (v : List ItemD × Int) (j : Nat), itemsF L f i out cur = .ok (v, j) → spaceP L i ≤ j := by
  intro f
  induction f with
  | zero => intro i out cur v j h; rw [itemsF] at h; cases h
  | succ f ih =>
    intro i out cur v j h
    rw [itemsF] at h
    cases he : elemP L (spaceP L i) out cur with
    | error e => rw [he] at h; cases h
    | ok q =>
      rw [he] at h
      cases q with
      | none => simp only at h; injection h with h; injection h with h1 h2; omega
      | some q =>
        obtain ⟨⟨o, c⟩, k⟩ := q
        simp only at h
        by_cases h20 : 20 < o.length
        · rw [if_pos h20] at h; cases h
        · rw [if_neg h20] at h
          have h1 := (elemP_ok hL he).1
          have h2 := ih _ _ _ _ _ h
          have h3 := spaceP_ge L k
          omega
theorem pk_neg {L : List Int} (hL : RunesOk L) {k : Nat} (h : pk L k < 0) : L.length ≤ k := by
  rcases Nat.lt_or_ge k L.length with hl | hl
  · have := hL (L[k]) (List.getElem_mem hl)
    rw [pk_at (List.getElem?_eq_getElem hl)] at h
    omega
  · exact hl
section
variable {p : Nat} {L L' : List Int} (E : Emb p L L')
include E
theorem emb_space : ∀ (d i : Nat), L.length - i = d → i ≤ L.length → (spaceP L i < L.length ∨ pk L' (p + L.length) = -1) → spaceP L' (p + i) = p + spaceP L i := by
  intro d
  induction d using Nat.strongRecOn with
  | _ d ih =>
    intro i hd hi hq
    rw [spaceP_eq L i] at hq
    rw [spaceP_eq L i, spaceP_eq L' (p + i)]
    by_cases h35 : pk L (skipP L i) = 35
    · obtain ⟨hl, hm⟩ := rem_on h35
      rw [if_pos h35] at hq ⊢
      rw [E.skip hi hl, E.pk hl, if_pos h35]
      have h1 := skipP_ge L i
      have h2 : runFrom remB L (skipP L i) ≤ L.length := (runFrom_le (Nat.le_of_lt hl)).2
      have h3 := spaceP_ge L (runFrom remB L (skipP L i))
      rw [E.run _ _ rfl (Nat.le_of_lt hl) (by rcases hq with hq | hq; exact .inl (by omega); exact .inr (by rw [hq]; rfl))]
      exact ih _ (by omega) _ rfl h2 hq
    · rw [if_neg h35] at hq ⊢
      have hs : skipP L i ≤ L.length := skipP_le hi
      have e : skipP L' (p + i) = p + skipP L i := E.run _ i rfl hi (by rcases hq with hq | hq; exact .inl hq; exact .inr (by rw [hq]; rfl))
      rw [e, if_neg]
      rcases Nat.lt_or_ge (skipP L i) L.length with hl | hl
      · rw [E.pk hl]; exact h35
      · rcases hq with hq | hq
        · omega
        · rw [show skipP L i = L.length by omega, hq]; decide
theorem run_over {q : Int → Bool} (hq : q (pk L' (p + L.length)) = true) (hin : p + L.length < L'.length) : ∀ (d i : Nat), L.length - i = d → i ≤ L.length → runFrom q L i = L.length → runFrom q L' (p + i) = runFrom q L' (p + L.length + 1) := by
  intro d
  induction d with
  | zero =>
    intro i hd hi h
    have e : i = L.length := by omega
    subst e
    exact runFrom_in hin hq
  | succ d ih =>
    intro i hd hi h
    have hl : i < L.length := by omega
    cases hv : q (pk L i) with
    | true =>
      rw [runFrom_in hl hv] at h
      rw [runFrom_in (E.lt hl) (by rw [E.pk hl]; exact hv), Nat.add_assoc]
      exact ih (i + 1) (by omega) (by omega) h
    | false =>
      rw [runFrom_out (fun _ => hv)] at h
      omega
theorem space_over (hs : pk L' (p + L.length) = 10) (hin : p + L.length < L'.length) : ∀ (d i : Nat), L.length - i = d → i ≤ L.length → spaceP L i = L.length → spaceP L' (p + i) = spaceP L' (p + L.length + 1) := by
  intro d
  induction d using Nat.strongRecOn with
  | _ d ih =>
    intro i hd hi h
    rw [spaceP_eq L i] at h
    rw [spaceP_eq L' (p + i)]
    by_cases h35 : pk L (skipP L i) = 35
    · obtain ⟨hl, hm⟩ := rem_on h35
      rw [if_pos h35] at h
      rw [E.skip hi hl, E.pk hl, if_pos h35]
      have h1 := skipP_ge L i
      have h2 : runFrom remB L (skipP L i) ≤ L.length := (runFrom_le (Nat.le_of_lt hl)).2
      rw [E.run _ _ rfl (Nat.le_of_lt hl) (.inr (by rw [hs]; rfl))]
      exact ih _ (by omega) _ rfl h2 h
    · rw [if_neg h35] at h
      have e : skipP L' (p + i) = skipP L' (p + L.length + 1) := run_over E (by rw [hs]; rfl) hin _ i rfl hi h
      rw [e, ← spaceP_eq]
theorem emb_wordEnd {i : Nat} (hi : i ≤ L.length) : wordEnd L' (p + i) = p + wordEnd L i := by
  unfold wordEnd
  rcases Nat.lt_or_ge i L.length with hl | hl
  · rw [E.pk hl]
    split
    · exact E.run2 (by decide) (by decide) (by decide) hi
    · rfl
  · have e : i = L.length := by omega
    subst e
    rw [pk_end (Nat.le_refl _), if_neg (by decide : ¬ letB (-1) = true), if_neg]
    rcases E.stop with e | e | e <;> rw [e] <;> decide
theorem emb_wordT {i : Nat} (hi : i ≤ L.length) : wordT L' (p + i) = wordT L i := by
  unfold wordT
  rw [emb_wordEnd E hi, E.text (wordEnd_le hi)]
theorem emb_name {i : Nat} (hi : i ≤ L.length) : EmbR p L (nameP L i) (nameP L' (p + i)) := by
  intro v j h
  have hj := (nameP_ok h).2.2.2
  unfold nameP at h ⊢
  rw [emb_wordT E hi, emb_wordEnd E hi]
  split at h
  · rename_i hn
    rw [if_pos hn]
    injection h with h; injection h with h3 h4; subst h3 h4
    exact ⟨wordEnd_le hi, rfl⟩
  · cases h
theorem emb_quoted {i : Nat} (hi : i < L.length) : EmbR p L (quotedP L i) (quotedP L' (p + i)) := by
  intro v j h
  have hj := (quotedP_ok h).2
  refine ⟨hj, ?_⟩
  unfold quotedP at h ⊢
  by_cases h39 : pk L (runFrom notQ L (i + 1)) = 39
  · have hl : runFrom notQ L (i + 1) < L.length := pk_lt (by omega)
    rw [if_pos h39] at h
    rw [show p + i + 1 = p + (i + 1) from rfl, E.run _ (i + 1) rfl hi (.inl hl), E.pk hl, if_pos h39, E.text (Nat.le_of_lt hl)]
    injection h with h; injection h with h3 h4; subst h3 h4
    rfl
  · rw [if_neg h39] at h; cases h
theorem emb_let {k : Nat} (hk : k ≤ L.length) : letB (pk L' (p + k)) = letB (pk L k) := by
  rcases Nat.lt_or_ge k L.length with hl | hl
  · rw [E.pk hl]
  · have e : k = L.length := by omega
    subst e
    rw [pk_end (Nat.le_refl _)]
    rcases E.stop with e | e | e <;> rw [e] <;> decide
theorem emb_elem_none {a : Nat} (ha : a < L.length) {out : List ItemD} {cur : Int} (h : elemP L a out cur = .ok none) : elemP L' (p + a) out cur = .ok none := by
  unfold elemP at h ⊢
  rw [E.pk ha, show p + a + 1 = p + (a + 1) from rfl, emb_let E ha]
  by_cases h124 : pk L a = 124
  · rw [if_pos h124] at h
    split at h <;> first | cases h | (injection h with h; cases h)
  · rw [if_neg h124] at h ⊢
    by_cases h91 : pk L a = 91
    · rw [if_pos h91] at h
      split at h <;> first | cases h | (injection h with h; cases h)
    · rw [if_neg h91] at h ⊢
      by_cases h36 : pk L a = 36 ∧ letB (pk L (a + 1)) = true
      · rw [if_pos h36] at h
        split at h <;> first | cases h | (injection h with h; cases h)
      · rw [if_neg h36] at h ⊢
        by_cases h39 : pk L a = 39
        · rw [if_pos h39] at h
          split at h <;> first | cases h | (injection h with h; cases h)
        · rw [if_neg h39] at h ⊢
          by_cases h92 : pk L a = 92 ∨ plainB (pk L a) = true
          · rw [if_pos h92] at h
            split at h
            · cases h
            · split at h <;> first | cases h | (injection h with h; cases h)
          · rw [if_neg h92]
theorem emb_elem (hL : RunesOk L) {a j : Nat} {out o : List ItemD} {cur c : Int} (h : elemP L a out cur = .ok (some ((o, c), j))) : a < j ∧ j ≤ L.length ∧ elemP L' (p + a) out cur = .ok (some ((o, c), p + j)) := by
  have haj := (elemP_ok hL h).1
  have ha : a < L.length := by
    refine pk_lt (fun e => ?_)
    unfold elemP at h
    rw [e] at h
    simp [plainB] at h
  refine ⟨haj, ?_⟩
  unfold elemP at h ⊢
  rw [E.pk ha, show p + a + 1 = p + (a + 1) from rfl, emb_let E ha]
  by_cases h124 : pk L a = 124
  · rw [if_pos h124] at h ⊢
    by_cases hc : 0 ≤ cur
    · rw [if_pos hc] at h; cases h
    · rw [if_neg hc] at h ⊢
      injection h with h; injection h with h; injection h with h1 h2; injection h1 with h1 h3
      subst h1 h2 h3
      exact ⟨ha, rfl⟩
  · rw [if_neg h124] at h ⊢
    by_cases h91 : pk L a = 91
    · rw [if_pos h91] at h ⊢
      cases hs : setP' L 20 a with
      | error e => rw [hs] at h; cases h
      | ok q =>
        obtain ⟨s, k⟩ := q
        obtain ⟨_, hk, e1⟩ := emb_set E hL 20 _ _ _ hs
        rw [hs] at h
        rw [e1]
        simp only at h ⊢
        injection h with h; injection h with h; injection h with h1 h2; injection h1 with h1 h3
        subst h1 h2 h3
        exact ⟨hk, rfl⟩
    · rw [if_neg h91] at h ⊢
      by_cases h36 : pk L a = 36 ∧ letB (pk L (a + 1)) = true
      · rw [if_pos h36] at h ⊢
        cases hs : nameP L (a + 1) with
        | error e => rw [hs] at h; cases h
        | ok q =>
          obtain ⟨s, k⟩ := q
          obtain ⟨hk, e1⟩ := emb_name E ha _ _ hs
          rw [hs] at h
          rw [e1]
          simp only at h ⊢
          injection h with h; injection h with h; injection h with h1 h2; injection h1 with h1 h3
          subst h1 h2 h3
          exact ⟨hk, rfl⟩
      · rw [if_neg h36] at h ⊢
        by_cases h39 : pk L a = 39
        · rw [if_pos h39] at h ⊢
          cases hs : quotedP L a with
          | error e => rw [hs] at h; cases h
          | ok q =>
            obtain ⟨s, k⟩ := q
            obtain ⟨hk, e1⟩ := emb_quoted E ha _ _ hs
            rw [hs] at h
            rw [e1]
            simp only at h ⊢
            injection h with h; injection h with h; injection h with h1 h2; injection h1 with h1 h3
            subst h1 h2 h3
            exact ⟨hk, rfl⟩
        · rw [if_neg h39] at h ⊢
          by_cases h92 : pk L a = 92 ∨ plainB (pk L a) = true
          · rw [if_pos h92] at h ⊢
            cases hs : charP L a with
            | error e => rw [hs] at h; cases h
            | ok q =>
              obtain ⟨x, k⟩ := q
              obtain ⟨hk, e1⟩ := emb_char E _ _ _ hs
              rw [hs] at h
              rw [e1]
              simp only at h ⊢
              by_cases hr : rightB x = true
              · rw [if_pos hr] at h ⊢
                injection h with h; injection h with h; injection h with h1 h2; injection h1 with h1 h3
                subst h1 h2 h3
                exact ⟨hk, rfl⟩
              · rw [if_neg hr] at h; cases h
          · rw [if_neg h92] at h; injection h with h; cases h
theorem emb_items (hL : RunesOk L) : ∀ (f f' i : Nat) (out : List ItemD) (cur : Int) (v : List ItemD × Int) (j : Nat), f ≤ f' → i ≤ L.length → itemsF L f i out cur = .ok (v, j) → i ≤ j ∧ j ≤ L.length ∧ (j < L.length → itemsF L' f' (p + i) out cur = .ok (v, p + j)) := by
  intro f
  induction f with
  | zero => intro f' i out cur v j _ _ h; rw [itemsF] at h; cases h
  | succ f ih =>
    intro f' i out cur v j hf hi h
    obtain ⟨f', rfl⟩ : ∃ g, f' = g + 1 := ⟨f' - 1, by omega⟩
    have h0 := spaceP_ge L i
    have h1 := spaceP_le hi
    rw [itemsF] at h
    cases he : elemP L (spaceP L i) out cur with
    | error e => rw [he] at h; cases h
    | ok q =>
      rw [he] at h
      cases q with
      | none =>
        simp only at h
        injection h with h; injection h with h3 h4; subst h3 h4
        exact ⟨h0, h1, fun hj => by rw [itemsF, emb_space E _ i rfl hi (.inl hj), emb_elem_none E hj he]⟩
      | some q =>
        obtain ⟨⟨o, c⟩, k⟩ := q
        simp only at h
        by_cases h20 : 20 < o.length
        · rw [if_pos h20] at h; cases h
        · rw [if_neg h20] at h
          obtain ⟨g1, g2, g3⟩ := emb_elem E hL he
          obtain ⟨k1, k2, k3⟩ := ih f' k o c v j (by omega) g2 h
          refine ⟨by omega, k2, fun hj => ?_⟩
          rw [itemsF, emb_space E _ i rfl hi (.inl (by omega)), g3]
          simp only
          rw [if_neg h20]
          exact k3 hj
theorem emb_itemsR (hL : RunesOk L) {i : Nat} {v : List ItemD × Int} {j : Nat} (hi : i ≤ L.length) (h : itemsR L i = .ok (v, j)) : i ≤ j ∧ j ≤ L.length ∧ (j < L.length → itemsR L' (p + i) = .ok (v, p + j)) :=
  emb_items E hL _ _ _ _ _ _ _ (by have := E.len; omega) hi h
theorem emb_head (hL : RunesOk L) {start : Bool} {a : Nat} {v : List ItemD × List ItemD × Int} {j : Nat} (ha : a ≤ L.length) (h : headR L start a = .ok (v, j)) : a ≤ j ∧ j ≤ L.length ∧ (j < L.length → headR L' start (p + a) = .ok (v, p + j)) := by
  unfold headR at h
  cases hi : itemsR L a with
  | error e => rw [hi] at h; cases h
  | ok q =>
    obtain ⟨⟨l, c⟩, j1⟩ := q
    obtain ⟨g1, g2, g3⟩ := emb_itemsR E hL ha hi
    rw [hi] at h
    simp only at h
    by_cases h123 : pk L j1 = 123
    · have hl1 : j1 < L.length := pk_lt (by omega)
      rw [if_pos h123] at h
      by_cases hc : 0 ≤ c
      · rw [if_pos hc] at h; cases h
      · rw [if_neg hc] at h
        cases hi2 : itemsR L (j1 + 1) with
        | error e => rw [hi2] at h; cases h
        | ok q =>
          obtain ⟨⟨l2, c2⟩, j2⟩ := q
          obtain ⟨k1, k2, k3⟩ := emb_itemsR E hL hl1 hi2
          rw [hi2] at h
          simp only at h
          injection h with h; injection h with h3 h4; subst h3 h4
          refine ⟨by omega, k2, fun hj => ?_⟩
          unfold headR
          rw [g3 hl1]
          simp only
          rw [E.pk hl1, if_pos h123, if_neg hc, show p + j1 + 1 = p + (j1 + 1) from rfl, k3 hj]
    · rw [if_neg h123] at h
      by_cases hs : start = true
      · rw [if_pos hs] at h; cases h
      · rw [if_neg hs] at h
        injection h with h; injection h with h3 h4; subst h3 h4
        refine ⟨g1, g2, fun hj => ?_⟩
        unfold headR
        rw [g3 hj]
        simp only
        rw [E.pk hj, if_neg h123, if_neg hs]
theorem emb_tail (hL : RunesOk L) {i : Nat} {v : List ItemD × Bool} {j : Nat} (hi : i ≤ L.length) (h : tailR L i = .ok (v, j)) : i ≤ j ∧ j ≤ L.length ∧ (j < L.length → tailR L' (p + i) = .ok (v, p + j)) := by
  unfold tailR at h
  by_cases h125 : pk L i = 125
  · have hl : i < L.length := pk_lt (by omega)
    rw [if_pos h125] at h
    cases hi2 : itemsR L (i + 1) with
    | error e => rw [hi2] at h; cases h
    | ok q =>
      obtain ⟨⟨l, c⟩, k⟩ := q
      obtain ⟨k1, k2, k3⟩ := emb_itemsR E hL hl hi2
      rw [hi2] at h
      simp only at h
      by_cases hc : 0 ≤ c
      · rw [if_pos hc] at h; cases h
      · rw [if_neg hc] at h
        by_cases h36 : pk L k = 36
        · have hl2 : k < L.length := pk_lt (by omega)
          rw [if_pos h36] at h
          injection h with h; injection h with h3 h4; subst h3 h4
          refine ⟨by omega, hl2, fun hj => ?_⟩
          unfold tailR
          rw [E.pk hl, if_pos h125, show p + i + 1 = p + (i + 1) from rfl, k3 hl2]
          simp only
          rw [if_neg hc, E.pk hl2, if_pos h36]
          rfl
        · rw [if_neg h36] at h
          injection h with h; injection h with h3 h4; subst h3 h4
          refine ⟨by omega, k2, fun hj => ?_⟩
          unfold tailR
          rw [E.pk hl, if_pos h125, show p + i + 1 = p + (i + 1) from rfl, k3 hj]
          simp only
          rw [if_neg hc, E.pk hj, if_neg h36]
  · rw [if_neg h125] at h
    injection h with h; injection h with h3 h4; subst h3 h4
    refine ⟨Nat.le_refl _, hi, fun hj => ?_⟩
    unfold tailR
    rw [E.pk hj, if_neg h125]
theorem emb_side (hL : RunesOk L) {i : Nat} {v : SideD} {j : Nat} (hi : i ≤ L.length) (h : sideR L i = .ok (v, j)) : spaceP L i ≤ j ∧ j ≤ L.length ∧ (j < L.length → sideR L' (p + i) = .ok (v, p + j)) := by
  unfold sideR at h
  obtain ⟨a0, ha0⟩ : ∃ a0, spaceP L i = a0 := ⟨_, rfl⟩
  rw [ha0] at h
  have hle0 : a0 ≤ L.length := by rw [← ha0]; exact spaceP_le hi
  obtain ⟨a1, ha1⟩ : ∃ a1, (if pk L a0 = 94 then a0 + 1 else a0) = a1 := ⟨_, rfl⟩
  rw [ha1] at h
  have hle1 : a0 ≤ a1 ∧ a1 ≤ L.length := by
    rw [← ha1]
    split
    · rename_i h94
      have := pk_lt (L := L) (i := a0) (by omega)
      omega
    · exact ⟨Nat.le_refl _, hle0⟩
  cases hh : headR L (decide (pk L a0 = 94)) a1 with
  | error e => rw [hh] at h; cases h
  | ok q =>
    obtain ⟨⟨b, s, c⟩, j1⟩ := q
    obtain ⟨g1, g2, g3⟩ := emb_head E hL hle1.2 hh
    rw [hh] at h
    simp only at h
    cases ht : tailR L j1 with
    | error e => rw [ht] at h; cases h
    | ok q =>
      obtain ⟨⟨a, fin⟩, k⟩ := q
      obtain ⟨k1, k2, k3⟩ := emb_tail E hL g2 ht
      rw [ht] at h
      simp only at h
      injection h with h; injection h with h3 h4; subst h3 h4
      have h5 := spaceP_ge L k
      have h6 := spaceP_le k2
      refine ⟨by omega, h6, fun hj => ?_⟩
      have hl0 : a0 < L.length := by omega
      unfold sideR
      rw [emb_space E _ i rfl hi (.inl (by omega)), ha0, E.pk hl0, show (if pk L a0 = 94 then p + a0 + 1 else p + a0) = p + a1 by rw [← ha1]; split <;> rfl, g3 (by omega)]
      simp only
      rw [k3 (by omega)]
      simp only
      rw [emb_space E _ k rfl k2 (.inl hj)]
theorem emb_arrow {i : Nat} {d : Int} {j : Nat} (h : arrowR L i = .ok (d, j)) : i < j ∧ j ≤ L.length ∧ arrowR L' (p + i) = .ok (d, p + j) := by
  unfold arrowR at h ⊢
  by_cases h62 : pk L i = 62
  · have hl : i < L.length := pk_lt (by omega)
    rw [if_pos h62] at h
    injection h with h; injection h with h3 h4; subst h3 h4
    rw [E.pk hl, if_pos h62]
    exact ⟨by omega, hl, rfl⟩
  · rw [if_neg h62] at h
    by_cases h60 : pk L i = 60 ∧ pk L (i + 1) = 62
    · have hl : i < L.length := pk_lt (by omega)
      have hl2 : i + 1 < L.length := pk_lt (by omega)
      rw [if_pos h60] at h
      injection h with h; injection h with h3 h4; subst h3 h4
      rw [E.pk hl, show p + i + 1 = p + (i + 1) from rfl, E.pk hl2, if_neg h62, if_pos h60]
      exact ⟨by omega, hl2, rfl⟩
    · rw [if_neg h60] at h
      cases hn : needP L i 60 with
      | error e => rw [hn] at h; cases h
      | ok k =>
        obtain ⟨hk, e1⟩ := emb_need E hn (by decide)
        obtain ⟨rfl, hp⟩ := needP_ok hn
        have hl : i < L.length := hk
        rw [hn] at h
        simp only at h
        injection h with h; injection h with h3 h4; subst h3 h4
        have c1 := E.is (k := i + 1) hk (r := 62) (by decide) (by decide) (by decide)
        rw [E.pk hl, if_neg h62, show p + i + 1 = p + (i + 1) from rfl, if_neg (fun x => h60 ⟨x.1, c1.1 x.2⟩), e1]
        exact ⟨by omega, hk, rfl⟩
theorem emb_rule (hL : RunesOk L) {i : Nat} {v : PartD} {j : Nat} (hi : i ≤ L.length) (h : ruleR L i = .ok (v, j)) : i ≤ j ∧ j ≤ L.length ∧ (j < L.length → ruleR L' (p + i) = .ok (v, p + j)) := by
  unfold ruleR at h
  cases hs : sideR L i with
  | error e => rw [hs] at h; cases h
  | ok q =>
    obtain ⟨l, a⟩ := q
    obtain ⟨g1, g2, g3⟩ := emb_side E hL hi hs
    rw [hs] at h
    simp only at h
    cases ha : arrowR L a with
    | error e => rw [ha] at h; cases h
    | ok q =>
      obtain ⟨d, k⟩ := q
      obtain ⟨k1, k2, k3⟩ := emb_arrow E ha
      rw [ha] at h
      simp only at h
      cases hs2 : sideR L k with
      | error e => rw [hs2] at h; cases h
      | ok q =>
        obtain ⟨r, m⟩ := q
        obtain ⟨m1, m2, m3⟩ := emb_side E hL k2 hs2
        rw [hs2] at h
        simp only at h
        have h7 := spaceP_ge L i
        have h8 := spaceP_ge L k
        by_cases hw : partP ⟨2, noName, [], d, l, r⟩ ≠ 0
        · rw [if_pos hw] at h; cases h
        · rw [if_neg hw] at h
          injection h with h; injection h with h3 h4; subst h3 h4
          refine ⟨by omega, m2, fun hj => ?_⟩
          unfold ruleR
          rw [g3 (by omega)]
          simp only
          rw [k3]
          simp only
          rw [m3 hj]
          simp only
          rw [if_neg hw]
theorem emb_pass (hL : RunesOk L) {i : Nat} {v : PartD} {j : Nat} (h : passR L i = .ok (v, j)) : i ≤ j ∧ j ≤ L.length ∧ (j < L.length → passR L' (p + i) = .ok (v, p + j)) := by
  unfold passR at h
  cases hn : needP L (i + 1) 58 with
  | error e => rw [hn] at h; cases h
  | ok a =>
    obtain ⟨ha, e1⟩ := emb_need E hn (by decide)
    have h0 := (needP_ok hn).1
    rw [hn] at h
    simp only at h
    have h5 := spaceP_ge L a
    have h6 := spaceP_le ha
    by_cases h91 : pk L (spaceP L a) = 91
    · have hl : spaceP L a < L.length := pk_lt (by omega)
      rw [if_pos h91] at h
      cases hs : setP' L 20 (spaceP L a) with
      | error e => rw [hs] at h; cases h
      | ok q =>
        obtain ⟨s, k⟩ := q
        obtain ⟨k0, k1, k2⟩ := emb_set E hL 20 _ _ _ hs
        rw [hs] at h
        simp only at h
        injection h with h; injection h with h3 h4; subst h3 h4
        refine ⟨by omega, k1, fun hj => ?_⟩
        unfold passR
        rw [show p + i + 1 = p + (i + 1) from rfl, e1]
        simp only
        rw [emb_space E _ a rfl ha (.inl hl), E.pk hl, if_pos h91, k2]
    · rw [if_neg h91] at h
      by_cases hb : passB (wordT L (spaceP L a)) = true
      · rw [if_pos hb] at h
        injection h with h; injection h with h3 h4; subst h3 h4
        have h7 := wordEnd_ge L (spaceP L a)
        refine ⟨by omega, wordEnd_le h6, fun hj => ?_⟩
        have hl : spaceP L a < L.length := by omega
        unfold passR
        rw [show p + i + 1 = p + (i + 1) from rfl, e1]
        simp only
        rw [emb_space E _ a rfl ha (.inl hl), E.pk hl, if_neg h91, emb_wordT E h6, if_pos hb, emb_wordEnd E h6]
      · rw [if_neg hb] at h; cases h
theorem emb_var (hL : RunesOk L) {i : Nat} {v : PartD} {j : Nat} (hi : i < L.length) (h : varR L i = .ok (v, j)) : i ≤ j ∧ j ≤ L.length ∧ (j < L.length → varR L' (p + i) = .ok (v, p + j)) := by
  unfold varR at h
  cases hn : nameP L (i + 1) with
  | error e => rw [hn] at h; cases h
  | ok q =>
    obtain ⟨s, a⟩ := q
    obtain ⟨ha, e1⟩ := emb_name E hi _ _ hn
    have h0 := (nameP_ok hn).1
    rw [hn] at h
    simp only at h
    cases hq : needP L (spaceP L a) 61 with
    | error e => rw [hq] at h; cases h
    | ok k =>
      obtain ⟨hk, e2⟩ := emb_need E hq (by decide)
      have h1 := (needP_ok hq).1
      have h2 := spaceP_ge L a
      rw [hq] at h
      simp only at h
      cases hs : setP' L 20 (spaceP L k) with
      | error e => rw [hs] at h; cases h
      | ok q =>
        obtain ⟨t, m⟩ := q
        obtain ⟨k0, k1, k2⟩ := emb_set E hL 20 _ _ _ hs
        have h4 := spaceP_ge L k
        rw [hs] at h
        simp only at h
        injection h with h; injection h with h3 h5; subst h3 h5
        refine ⟨by omega, k1, fun hj => ?_⟩
        unfold varR
        rw [show p + i + 1 = p + (i + 1) from rfl, e1]
        simp only
        rw [emb_space E _ a rfl ha (.inl (by omega)), e2]
        simp only
        rw [emb_space E _ k rfl hk (.inl (by omega)), k2]
end
theorem side_dollar {L : List Int} (hL : RunesOk L) {i : Nat} {v : SideD} {j : Nat} (h36 : pk L i = 36) (h : sideR L i = .ok (v, j)) : j = i ∨ spaceP L (wordEnd L (i + 1)) ≤ j := by
  have E : Emb 0 L L := ⟨fun k _ => by rw [Nat.zero_add], .inr (.inr (by rw [Nat.zero_add]; exact pk_end (Nat.le_refl _)))⟩
  have e0 : spaceP L i = i := spaceP_at (by rw [h36]; decide) (by rw [h36]; decide)
  have hl : i < L.length := pk_lt (by omega)
  unfold sideR at h
  rw [e0, if_neg (by rw [h36]; decide), show decide (pk L i = 94) = false by rw [h36]; decide] at h
  unfold headR at h
  cases hi : itemsR L i with
  | error e => rw [hi] at h; cases h
  | ok q =>
    obtain ⟨⟨l, c⟩, j1⟩ := q
    have hj1 := emb_itemsR E hL (Nat.le_of_lt hl) hi
    have key : j1 = i ∨ spaceP L (wordEnd L (i + 1)) ≤ j1 := by
      unfold itemsR at hi
      rw [itemsF, e0] at hi
      unfold elemP at hi
      rw [if_neg (by rw [h36]; decide), if_neg (by rw [h36]; decide)] at hi
      by_cases hc : pk L i = 36 ∧ letB (pk L (i + 1)) = true
      · rw [if_pos hc] at hi
        cases hs : nameP L (i + 1) with
        | error e => rw [hs] at hi; cases hi
        | ok q =>
          obtain ⟨s, k⟩ := q
          have hk := (nameP_ok hs).2.2.2
          rw [hs] at hi
          simp only at hi
          split at hi
          · cases hi
          · have := items_sp hL _ _ _ _ _ _ hi
            rw [hk] at this
            exact .inr this
      · rw [if_neg hc, if_neg (by rw [h36]; decide), if_neg (by rw [h36]; decide)] at hi
        simp only at hi
        injection hi with hi; injection hi with h3 h4
        exact .inl h4.symm
    rw [hi] at h
    simp only at h
    rcases key with rfl | key
    · rw [if_neg (by rw [h36]; decide), if_neg (by decide)] at h
      simp only at h
      unfold tailR at h
      rw [if_neg (by rw [h36]; decide)] at h
      simp only at h
      injection h with h; injection h with h3 h4
      rw [e0] at h4
      exact .inl h4.symm
    · right
      have up : ∀ (r : Rdg (List ItemD × List ItemD × Int)), (match r with | .error e => Except.error e | .ok ((b, s, c), j) => match tailR L j with | .error e => .error e | .ok ((a, fin), k) => .ok ((⟨false, fin, b, s, a, c⟩ : SideD), spaceP L k)) = .ok (v, j) → (∀ x k, r = .ok (x, k) → j1 ≤ k ∧ k ≤ L.length) → j1 ≤ j := by
        intro r hr hk
        cases r with
        | error e => cases hr
        | ok q =>
          obtain ⟨⟨b, s, c⟩, k⟩ := q
          obtain ⟨hk1, hk2⟩ := hk _ _ rfl
          simp only at hr
          cases ht : tailR L k with
          | error e => rw [ht] at hr; cases hr
          | ok q =>
            obtain ⟨⟨a, fin⟩, m⟩ := q
            have hm := (emb_tail E hL hk2 ht).1
            rw [ht] at hr
            simp only at hr
            injection hr with hr; injection hr with h3 h4
            have := spaceP_ge L m
            omega
      refine Nat.le_trans key (up _ h ?_)
      intro x k hk
      split at hk
      · rename_i h123
        have hl1 : j1 < L.length := pk_lt (by omega)
        split at hk
        · cases hk
        · cases hi2 : itemsR L (j1 + 1) with
          | error e => rw [hi2] at hk; cases hk
          | ok q =>
            obtain ⟨⟨l2, c2⟩, j2⟩ := q
            have := emb_itemsR E hL hl1 hi2
            rw [hi2] at hk
            simp only at hk
            injection hk with hk; injection hk with h3 h4
            omega
      · rw [if_neg (by decide)] at hk
        injection hk with hk; injection hk with h3 h4
        omega
theorem emb_partR {p : Nat} {L L' : List Int} (E : Emb p L L') (hL : RunesOk L) {i : Nat} {v : PartD} {j : Nat} (hi : i ≤ L.length) (h : partR L i = .ok (v, j)) : i ≤ j ∧ j ≤ L.length ∧ (j < L.length → partR L' (p + i) = .ok (v, p + j)) := by
  unfold partR at h
  by_cases h58 : pk L i = 58
  · rw [if_pos h58] at h
    have hl : i < L.length := pk_lt (by omega)
    obtain ⟨g1, g2, g3⟩ := emb_pass E hL h
    refine ⟨g1, g2, fun hj => ?_⟩
    unfold partR
    rw [E.pk hl, if_pos h58]
    exact g3 hj
  · rw [if_neg h58] at h
    by_cases h36 : pk L i = 36 ∧ pk L (spaceP L (wordEnd L (i + 1))) = 61
    · rw [if_pos h36] at h
      have hl : i < L.length := pk_lt (by omega)
      have hl2 : spaceP L (wordEnd L (i + 1)) < L.length := pk_lt (by omega)
      obtain ⟨g1, g2, g3⟩ := emb_var E hL hl h
      refine ⟨g1, g2, fun hj => ?_⟩
      unfold partR
      rw [E.pk hl, if_neg h58, show p + i + 1 = p + (i + 1) from rfl, emb_wordEnd E hl, emb_space E _ _ rfl (wordEnd_le hl) (.inl hl2), E.pk hl2, if_pos h36]
      exact g3 hj
    · rw [if_neg h36] at h
      obtain ⟨g1, g2, g3⟩ := emb_rule E hL hi h
      refine ⟨g1, g2, fun hj => ?_⟩
      have hl : i < L.length := by omega
      unfold partR
      rw [E.pk hl, if_neg h58, if_neg]
      · exact g3 hj
      · rintro ⟨x1, x2⟩
        rw [show p + i + 1 = p + (i + 1) from rfl, emb_wordEnd E hl] at x2
        rcases Nat.lt_or_ge (spaceP L (wordEnd L (i + 1))) L.length with hs | hs
        · rw [emb_space E _ _ rfl (wordEnd_le hl) (.inl hs), E.pk hs] at x2
          exact h36 ⟨x1, x2⟩
        · unfold ruleR at h
          cases hsd : sideR L i with
          | error e => rw [hsd] at h; cases h
          | ok q =>
            obtain ⟨l, a⟩ := q
            rw [hsd] at h
            simp only at h
            cases ha : arrowR L a with
            | error e => rw [ha] at h; cases h
            | ok q =>
              obtain ⟨d, k⟩ := q
              have hk := (emb_arrow E ha)
              rcases side_dollar hL x1 hsd with rfl | hge
              · unfold arrowR at ha
                rw [if_neg (by omega), if_neg (fun x => by have := x.1; omega), needP_not (by omega)] at ha
                cases ha
              · omega
theorem file_more {L : List Int} : ∀ (f k i : Nat) (l r : List PartD), fileF L f i l = .ok r → fileF L (f + k) i l = .ok r := by
  intro f
  induction f with
  | zero => intro k i l r h; rw [fileF] at h; cases h
  | succ f ih =>
    intro k i l r h
    rw [show f + 1 + k = (f + k) + 1 by omega]
    rw [fileF] at h ⊢
    split at h
    · rename_i hc; rw [if_pos hc]; exact h
    · rename_i hc
      rw [if_neg hc]
      split at h
      · cases h
      · rename_i h2
        rw [if_neg h2]
        split at h
        · cases h
        · split at h
          · cases h
          · exact ih _ _ _ _ h
theorem file_grow {L : List Int} : ∀ (f i : Nat) (l r : List PartD), fileF L f i l = .ok r → l.length ≤ r.length := by
  intro f
  induction f with
  | zero => intro i l r h; rw [fileF] at h; cases h
  | succ f ih =>
    intro i l r h
    rw [fileF] at h
    split at h
    · injection h with h; subst h; exact Nat.le_refl _
    · split at h
      · cases h
      · split at h
        · cases h
        · split at h
          · cases h
          · have := ih _ _ _ h
            rw [List.length_append] at this
            simp at this
            omega
theorem partR_le {L : List Int} (hL : RunesOk L) {i : Nat} {v : PartD} {j : Nat} (hi : i ≤ L.length) (h : partR L i = .ok (v, j)) : i ≤ j ∧ j ≤ L.length := by
  have E : Emb 0 L L := ⟨fun k _ => by rw [Nat.zero_add], .inr (.inr (by rw [Nat.zero_add]; exact pk_end (Nat.le_refl _)))⟩
  exact ⟨(emb_partR E hL hi h).1, (emb_partR E hL hi h).2.1⟩
theorem file_enough {L : List Int} (hL : RunesOk L) : ∀ (f g i : Nat) (l : List PartD), i ≤ L.length → L.length < f + i → L.length < g + i → fileF L f i l = fileF L g i l := by
  intro f
  induction f with
  | zero => intro g i l hi h1 h2; omega
  | succ f ih =>
    intro g i l hi h1 h2
    obtain ⟨g, rfl⟩ : ∃ k, g = k + 1 := ⟨g - 1, by omega⟩
    rw [fileF, fileF]
    split
    · rfl
    · split
      · rfl
      · cases hp : partR L (spaceP L i) with
        | error e => rfl
        | ok q =>
          obtain ⟨v, j⟩ := q
          simp only
          have hp2 := partR_le hL (spaceP_le hi) hp
          cases hn : needP L (spaceP L j) 59 with
          | error e => rfl
          | ok k =>
            simp only
            obtain ⟨rfl, hpk⟩ := needP_ok hn
            have h3 := spaceP_ge L i
            have h4 := spaceP_ge L j
            have hl : spaceP L j < L.length := pk_lt (by omega)
            exact ih g _ _ hl (by omega) (by omega)
theorem file_full {L : List Int} (hL : RunesOk L) {f i : Nat} {l r : List PartD} (hi : i ≤ L.length) (h : fileF L f i l = .ok r) : fileF L (L.length + 1) i l = .ok r := by
  have h1 := file_more f (L.length + 1) i l r h
  rw [← h1]
  exact file_enough hL _ _ _ _ hi (by omega) (by omega)
theorem file_at {L : List Int} {f i i' : Nat} {l : List PartD} (h : spaceP L i = spaceP L i') : fileF L (f + 1) i l = fileF L (f + 1) i' l := by rw [fileF, fileF, h]
theorem second_file {p : Nat} {L L' : List Int} (E : Emb p L L') (hL : RunesOk L) (hs : pk L' (p + L.length) = -1) : ∀ (f f' i : Nat) (l r l0 : List PartD), f ≤ f' → i ≤ L.length → fileF L f i l = .ok r → l0.length + r.length ≤ 200 → fileF L' f' (p + i) (l0 ++ l) = .ok (l0 ++ r) := by
  intro f
  induction f with
  | zero => intro f' i l r l0 _ _ h; rw [fileF] at h; cases h
  | succ f ih =>
    intro f' i l r l0 hf hi h hn
    obtain ⟨f', rfl⟩ : ∃ g, f' = g + 1 := ⟨f' - 1, by omega⟩
    have hg := file_grow _ _ _ _ h
    rw [fileF] at h ⊢
    rw [emb_space E _ i rfl hi (.inr hs)]
    have hle := spaceP_le hi
    obtain ⟨a, ha⟩ : ∃ a, spaceP L i = a := ⟨_, rfl⟩
    rw [ha] at h hle ⊢
    by_cases hc : pk L a < 0
    · have hge := pk_neg hL hc
      have e : a = L.length := by omega
      rw [if_pos hc] at h
      injection h with h
      subst h
      rw [e, hs, if_pos (by decide)]
    · rw [if_neg hc] at h
      have hl : a < L.length := by
        rcases Nat.lt_or_ge a L.length with h1 | h1
        · exact h1
        · rw [pk_end h1] at hc
          exact absurd (by decide) hc
      rw [E.pk hl, if_neg hc]
      by_cases h200 : l.length = 200
      · rw [if_pos h200] at h; cases h
      · rw [if_neg h200] at h
        cases hp : partR L a with
        | error e => rw [hp] at h; cases h
        | ok q =>
          obtain ⟨v, j⟩ := q
          obtain ⟨g1, g2, g3⟩ := emb_partR E hL hle hp
          rw [hp] at h
          simp only at h
          cases hq : needP L (spaceP L j) 59 with
          | error e => rw [hq] at h; cases h
          | ok k =>
            obtain ⟨hk, e1⟩ := emb_need E hq (by decide)
            have h0 := (needP_ok hq).1
            have h4 := spaceP_ge L j
            rw [hq] at h
            simp only at h
            have hg2 := file_grow _ _ _ _ h
            rw [List.length_append] at hg2
            simp at hg2
            rw [if_neg (by rw [List.length_append]; omega), g3 (by omega)]
            simp only
            rw [emb_space E _ j rfl g2 (.inr hs), e1]
            simp only
            rw [List.append_assoc]
            exact ih f' k _ _ _ (by omega) hk h hn
theorem first_file {p : Nat} {L L' : List Int} (E : Emb p L L') (hL : RunesOk L) (hs : pk L' (p + L.length) = 10) (hin : p + L.length < L'.length) : ∀ (f g i : Nat) (l r r2 : List PartD), i ≤ L.length → fileF L f i l = .ok r → fileF L' (g + 1) (p + L.length + 1) r = .ok r2 → fileF L' (f + g + 1) (p + i) l = .ok r2 := by
  intro f
  induction f with
  | zero => intro g i l r r2 _ h; rw [fileF] at h; cases h
  | succ f ih =>
    intro g i l r r2 hi h h2
    have hle := spaceP_le hi
    rw [fileF] at h
    obtain ⟨a, ha⟩ : ∃ a, spaceP L i = a := ⟨_, rfl⟩
    rw [ha] at h hle
    by_cases hc : pk L a < 0
    · have hge := pk_neg hL hc
      have e : a = L.length := by omega
      rw [if_pos hc] at h
      injection h with h
      subst h
      rw [file_at (space_over E hs hin _ i rfl hi (by rw [ha, e]))]
      have := file_more (g + 1) (f + 1) _ _ _ h2
      rwa [show g + 1 + (f + 1) = f + 1 + g + 1 by omega] at this
    · rw [if_neg hc] at h
      have hl : a < L.length := by
        rcases Nat.lt_or_ge a L.length with h1 | h1
        · exact h1
        · rw [pk_end h1] at hc
          exact absurd (by decide) hc
      rw [show f + 1 + g + 1 = (f + g + 1) + 1 by omega, fileF, emb_space E _ i rfl hi (.inl (by omega)), ha, E.pk hl, if_neg hc]
      by_cases h200 : l.length = 200
      · rw [if_pos h200] at h; cases h
      · rw [if_neg h200] at h ⊢
        cases hp : partR L a with
        | error e => rw [hp] at h; cases h
        | ok q =>
          obtain ⟨v, j⟩ := q
          obtain ⟨g1, g2, g3⟩ := emb_partR E hL hle hp
          rw [hp] at h
          simp only at h
          cases hq : needP L (spaceP L j) 59 with
          | error e => rw [hq] at h; cases h
          | ok k =>
            obtain ⟨hk, e1⟩ := emb_need E hq (by decide)
            have h0 := (needP_ok hq).1
            have h4 := spaceP_ge L j
            rw [hq] at h
            simp only at h
            rw [g3 (by omega)]
            simp only
            rw [emb_space E _ j rfl g2 (.inl (by omega)), e1]
            simp only
            exact ih g k _ _ _ hk h h2
end Go.Proofs.YthnhbcohfoodlaaGreatDoor
