/- RulesRight + RdPartFr -/
import Derived.Test.YthnhbcohfoodlaaGreatDoorZt21
import Derived.Test.YthnhbcohfoodlaaGreatDoorZt43
import Derived.Test.YthnhbcohfoodlaaGreatDoorZt14
import Derived.Test.YthnhbcohfoodlaaGreatDoorZt31
namespace Go.Proofs.YthnhbcohfoodlaaGreatDoor
open Go.RowKit
def ItG (a : ItemD) : Prop := bareI a = a ∧ (a.kind = 1 ∨ a.kind = 2 ∨ a.kind = 3) ∧ a.name.size ≤ 20
theorem elem_good {L : List Int} {a : Nat} {out o : List ItemD} {cur c : Int} {j : Nat} (h : elemP L a out cur = .ok (some ((o, c), j))) (ho : ∀ x ∈ out, ItG x) : ∀ x ∈ o, ItG x := by
 have push : ∀ (l : List ItemD), (∀ x ∈ l, ItG x) → ∀ x ∈ out ++ l, ItG x := by
  intro l hl x hx
  rcases List.mem_append.1 hx with hx | hx
  ·exact ho x hx
  ·exact hl x hx
 have rune : ∀ x, ItG (runeI x) := fun x => ⟨rfl, .inl rfl, Nat.zero_le _⟩
 unfold elemP at h
 split at h
 ·split at h
  ·cases h
  ·injection h with h; injection h with h; injection h with h1 h2; injection h1 with h1 h3
   subst h1
   exact ho
 ·split at h
  ·split at h
   ·cases h
   ·injection h with h; injection h with h; injection h with h1 h2; injection h1 with h1 h3
    subst h1
    exact push _ (fun x hx => by rw [List.mem_singleton.1 hx]; exact ⟨rfl, .inr (.inl rfl), Nat.zero_le _⟩)
  ·split at h
   ·split at h
    ·cases h
    ·rename_i hn
     injection h with h; injection h with h; injection h with h1 h2; injection h1 with h1 h3
     subst h1
     exact push _ (fun x hx => by rw [List.mem_singleton.1 hx]; exact ⟨rfl, .inr (.inr rfl), named_len (nameP_ok hn).2.1⟩)
   ·split at h
    ·split at h
     ·cases h
     ·rename_i hq
      injection h with h; injection h with h; injection h with h1 h2; injection h1 with h1 h3
      subst h1
      unfold quotedP at hq
      split at hq
      ·injection hq with hq; injection hq with hq hq2
       subst hq
       refine push _ (fun x hx => ?_)
       obtain ⟨y, _, rfl⟩ := List.mem_map.1 hx
       exact rune y
      ·cases hq
    ·split at h
     ·split at h
      ·cases h
      ·split at h
       ·injection h with h; injection h with h; injection h with h1 h2; injection h1 with h1 h3
        subst h1
        exact push _ (fun x hx => by rw [List.mem_singleton.1 hx]; exact rune _)
       ·cases h
     ·injection h with h; cases h
theorem itemsF_good {L : List Int} : ∀ (f i : Nat) (out : List ItemD) (cur : Int) (v : List ItemD × Int) (j : Nat), (∀ x ∈ out, ItG x) → itemsF L f i out cur = .ok (v, j) → ∀ x ∈ v.1, ItG x := by
 intro f
 induction f with
 | zero => intro i out cur v j _ h; rw [itemsF] at h; cases h
 | succ f ih =>
   intro i out cur v j ho h
   rw [itemsF] at h
   cases he : elemP L (spaceP L i) out cur with
   | error e => rw [he] at h; cases h
   | ok q =>
     rw [he] at h
     cases q with
     | none => simp only at h; injection h with h; injection h with h1 h2; subst h1; exact ho
     | some q =>
       obtain ⟨⟨o, c⟩, k⟩ := q
       simp only at h
       split at h
       ·cases h
       ·exact ih _ _ _ _ _ (elem_good he ho) h
theorem itemsR_good {L : List Int} {i : Nat} {v : List ItemD × Int} {j : Nat} (h : itemsR L i = .ok (v, j)) : ∀ x ∈ v.1, ItG x := itemsF_good _ _ _ _ _ _ (by simp) h
def SdG (s : SideD) : Prop := (∀ x ∈ s.before, ItG x) ∧ (∀ x ∈ s.source, ItG x) ∧ ∀ x ∈ s.after, ItG x
theorem map_bare {l : List ItemD} (h : ∀ x ∈ l, ItG x) : l.map bareI = l := by
 induction l with
 | nil => rfl
 | cons a l ih => rw [List.map_cons, (h a List.mem_cons_self).1, ih (fun x hx => h x (List.mem_cons_of_mem _ hx))]
theorem SdG.bare {s : SideD} (h : SdG s) : bareS s = s := by
 unfold bareS
 rw [map_bare h.1, map_bare h.2.1, map_bare h.2.2]
theorem sideR_good {L : List Int} {i : Nat} {v : SideD} {j : Nat} (h : sideR L i = .ok (v, j)) : SdG v := by
 have nil : ∀ x ∈ ([] : List ItemD), ItG x := by simp
 unfold sideR at h
 cases hh : headR L (decide (pk L (spaceP L i) = 94)) (if pk L (spaceP L i) = 94 then spaceP L i + 1 else spaceP L i) with
 | error e => rw [hh] at h; cases h
 | ok q =>
   obtain ⟨⟨b, s, c⟩, j1⟩ := q
   rw [hh] at h
   simp only at h
   have h1 : (∀ x ∈ b, ItG x) ∧ ∀ x ∈ s, ItG x := by
    unfold headR at hh
    cases hi : itemsR L (if pk L (spaceP L i) = 94 then spaceP L i + 1 else spaceP L i) with
    | error e => rw [hi] at hh; cases hh
    | ok q =>
      obtain ⟨⟨l, c1⟩, j2⟩ := q
      rw [hi] at hh
      simp only at hh
      split at hh
      ·split at hh
       ·cases hh
       ·cases hi2 : itemsR L (j2 + 1) with
        | error e => rw [hi2] at hh; cases hh
        | ok q =>
          obtain ⟨⟨l2, c2⟩, j3⟩ := q
          rw [hi2] at hh
          simp only at hh
          injection hh with hh; injection hh with hh hh2; injection hh with hh3 hh4; injection hh4 with hh5 hh6
          subst hh3 hh5
          exact ⟨itemsR_good hi, itemsR_good hi2⟩
      ·split at hh
       ·cases hh
       ·injection hh with hh; injection hh with hh hh2; injection hh with hh3 hh4; injection hh4 with hh5 hh6
        subst hh3 hh5
        exact ⟨nil, itemsR_good hi⟩
   cases ht : tailR L j1 with
   | error e => rw [ht] at h; cases h
   | ok q =>
     obtain ⟨⟨a, fin⟩, k⟩ := q
     have h2 : ∀ x ∈ a, ItG x := by
      unfold tailR at ht
      split at ht
      ·cases hi : itemsR L (j1 + 1) with
       | error e => rw [hi] at ht; cases ht
       | ok q =>
         obtain ⟨⟨l, c1⟩, j2⟩ := q
         rw [hi] at ht
         simp only at ht
         split at ht
         ·cases ht
         ·split at ht
          ·injection ht with ht; injection ht with ht1 ht2; injection ht1 with ht3 ht4; subst ht3; exact itemsR_good hi
          ·injection ht with ht; injection ht with ht1 ht2; injection ht1 with ht3 ht4; subst ht3; exact itemsR_good hi
      ·injection ht with ht; injection ht with ht1 ht2; injection ht1 with ht3 ht4; subst ht3; exact nil
     rw [ht] at h
     simp only at h
     injection h with h; injection h with h3 h4
     subst h3
     exact ⟨h1.1, h1.2, h2⟩
def PtG (p : PartD) : Prop := partP p = 0 ∧ bareD p = p ∧ SdG p.left ∧ SdG p.right
theorem noSide_good : SdG noSide := ⟨by simp [noSide], by simp [noSide], by simp [noSide]⟩
theorem partR_good {L : List Int} (hL : RunesOk L) {i : Nat} {v : PartD} {j : Nat} (h : partR L i = .ok (v, j)) : PtG v := by
 unfold partR at h
 split at h
 ·unfold passR at h
  split at h
  ·cases h
  ·split at h
   ·split at h
    ·cases h
    ·rename_i hs
     injection h with h; injection h with h1 h2; subst h1
     exact ⟨wrong_of (setP_ok hL 20 _ _ _ hs).2, rfl, noSide_good, noSide_good⟩
   ·split at h
    ·rename_i hb
     injection h with h; injection h with h1 h2; subst h1
     refine ⟨?_, rfl, noSide_good, noSide_good⟩
     unfold partP
     rw [if_neg (show ¬ ((4 : Int) = 1) by decide), if_neg (show ¬ ((4 : Int) = 3) by decide), if_pos rfl, if_pos hb]
    ·cases h
 ·split at h
  ·unfold varR at h
   split at h
   ·cases h
   ·rename_i hn
    split at h
    ·cases h
    ·split at h
     ·cases h
     ·rename_i hs
      injection h with h; injection h with h1 h2; subst h1
      refine ⟨?_, rfl, noSide_good, noSide_good⟩
      unfold partP
      rw [if_pos rfl, if_pos (nameP_ok hn).2.1]
      exact wrong_of (setP_ok hL 20 _ _ _ hs).2
  ·unfold ruleR at h
   split at h
   ·cases h
   ·rename_i hl
    split at h
    ·cases h
    ·split at h
     ·cases h
     ·rename_i hr
      split at h
      ·cases h
      ·rename_i hw
       injection h with h; injection h with h1 h2; subst h1
       have g1 := sideR_good hl
       have g2 := sideR_good hr
       refine ⟨Decidable.of_not_not hw, ?_, g1, g2⟩
       unfold bareD
       simp only [g1.bare, g2.bare]
       rfl
theorem fileF_good {L : List Int} (hL : RunesOk L) : ∀ (f i : Nat) (l r : List PartD), fileF L f i l = .ok r → l.length ≤ 200 → (∀ p ∈ l, PtG p) → (∀ p ∈ r, PtG p) ∧ r.length ≤ 200 := by
 intro f
 induction f with
 | zero => intro i l r h; rw [fileF] at h; cases h
 | succ f ih =>
   intro i l r h hn hl
   rw [fileF] at h
   split at h
   ·injection h with h; subst h; exact ⟨hl, hn⟩
   ·split at h
    ·cases h
    ·split at h
     ·cases h
     ·rename_i hp
      split at h
      ·cases h
      ·refine ih _ _ _ h (by rw [List.length_append, List.length_singleton]; omega) (fun p hp2 => ?_)
       rcases List.mem_append.1 hp2 with hp2 | hp2
       ·exact hl p hp2
       ·rw [List.mem_singleton.1 hp2]; exact partR_good hL hp
theorem rulesP_parts {L : List Int} (hL : RunesOk L) : (∀ p ∈ (rulesP L).1, PtG p) ∧ (rulesP L).1.length ≤ 200 := by
 by_cases h1 : 16000 < L.length
 ·rw [rulesP_much h1]; exact ⟨by simp, Nat.zero_le _⟩
 ·cases h2 : fileF L (L.length + 1) 0 [] with
  | error e =>
    obtain ⟨e, p⟩ := e
    rw [rulesP_err h1 h2]
    exact ⟨by simp, Nat.zero_le _⟩
  | ok l =>
    rw [rulesP_ok h1 h2]
    exact fileF_good hL _ _ _ _ h2 (Nat.zero_le _) (by simp)
theorem fileGo_zero {l : List PartD} : ∀ i, (∀ p ∈ l, partP p = 0) → fileGo i l = (0, 0) := by
 induction l with
 | nil => intro i _; rfl
 | cons a l ih =>
   intro i h
   rw [fileGo, if_pos (h a List.mem_cons_self)]
   exact ih _ (fun x hx => h x (List.mem_cons_of_mem _ hx))
theorem rulesP_right {L : List Int} (hL : RunesOk L) : fileP (rulesP L).1 = (0, 0) ∧ (rulesP L).1.map bareD = (rulesP L).1 := by
 obtain ⟨h1, h2⟩ := rulesP_parts hL
 refine ⟨?_, ?_⟩
 ·unfold fileP
  rw [if_neg (by omega)]
  exact fileGo_zero 0 (fun p hp => (h1 p hp).1)
 ·generalize (rulesP L).1 = l at *
  clear h2
  induction l with
  | nil => rfl
  | cons a l ih => rw [List.map_cons, (h1 a List.mem_cons_self).2.1, ih (fun x hx => h1 x (List.mem_cons_of_mem _ hx))]
theorem bytesOf_flat (l : List (List Int)) : bytesOf (flatQ l) = (l.map bytesOf).flatMap fun w => w ++ [32] := by
 induction l with
 | nil => rfl
 | cons w l ih =>
   rw [flatQ_cons, bytesOf_app, List.map_cons, List.flatMap_cons, ← ih]
   show bytesOf w ++ bytesOf ([32] ++ flatQ l) = _
   rw [bytesOf_app, List.append_assoc]
   rfl
theorem item_bytes {a : ItemD} (h : itemP a = 0) : bytesOf (itemQ a) = itemW a ∧ (itemQ a).all rightB = true := by
 rcases item_kinds h with ⟨h1, hr⟩ | ⟨h2, hs⟩ | ⟨h3, hn⟩
 ·have hq : itemQ a = quoteR a.rune := by unfold itemQ; rw [if_pos h1]
  have hw : itemW a = quoteP a.rune := by unfold itemW; rw [if_pos h1]
  rw [hq, hw]
  exact ⟨quote_bytes _ (right_range hr).1 (right_range hr).2, quoteR_right _ (right_range hr).1 (right_range hr).2⟩
 ·have hq : itemQ a = printR a.set := by unfold itemQ; rw [h2]; rfl
  have hw : itemW a = setW a.set := by unfold itemW; rw [h2]; rfl
  rw [hq, hw]
  have hr := right_set hs
  refine ⟨?_, printR_right _ hr.each⟩
  rw [print_bytes _ hr.each]
  unfold setW printP
  rw [if_pos hs]
 ·have hq : itemQ a = 36 :: nameR a.name := by unfold itemQ; rw [h3]; rfl
  have hw : itemW a = 36 :: a.name.data.toList := by unfold itemW; rw [h3]; rfl
  rw [hq, hw]
  obtain ⟨_, g2, _⟩ := name_all (named_word hn)
  refine ⟨?_, ?_⟩
  ·show bytesOf ([36] ++ nameR a.name) = _
   rw [bytesOf_app]
   unfold nameR
   rw [bytesOf_low _ g2]
   rfl
  ·rw [List.all_cons, List.all_eq_true.2, Bool.and_true]
   ·decide
   ·intro d hd
    obtain ⟨b, hb, rfl⟩ := List.mem_map.1 hd
    have := g2 b hb
    simp [rightB]
    omega
theorem name_bytes {s : ByteArray} (h : WordOk s) : bytesOf (nameR s) = s.data.toList ∧ (nameR s).all rightB = true := by
 obtain ⟨_, g2, _⟩ := name_all h
 refine ⟨bytesOf_low _ g2, ?_⟩
 rw [List.all_eq_true]
 intro d hd
 obtain ⟨b, hb, rfl⟩ := List.mem_map.1 hd
 have := g2 b hb
 simp [rightB]
 omega
theorem set_bytes {s : Spans} (hs : wrongP s = 0) : bytesOf (printR s) = setW s ∧ (printR s).all rightB = true := by
 have hr := right_set hs
 refine ⟨?_, printR_right _ hr.each⟩
 rw [print_bytes _ hr.each]
 unfold setW printP
 rw [if_pos hs]
def WordsEq (a : List (List Int)) (b : List Word) : Prop := a.map bytesOf = b ∧ ∀ w ∈ a, w.all rightB = true
theorem WordsEq.nil : WordsEq [] [] := ⟨rfl, by simp⟩
theorem WordsEq.app {a c : List (List Int)} {b d : List Word} (h : WordsEq a b) (h2 : WordsEq c d) : WordsEq (a ++ c) (b ++ d) := by
 refine ⟨by rw [List.map_append, h.1, h2.1], fun w hw => ?_⟩
 rcases List.mem_append.1 hw with hw | hw
 ·exact h.2 w hw
 ·exact h2.2 w hw
theorem WordsEq.one {w : List Int} {x : Word} (h : bytesOf w = x) (hr : w.all rightB = true) : WordsEq [w] [x] := ⟨by rw [List.map_singleton, h], fun y hy => by rw [List.mem_singleton.1 hy]; exact hr⟩
theorem WordsEq.cons {w : List Int} {x : Word} {a : List (List Int)} {b : List Word} (h : bytesOf w = x) (hr : w.all rightB = true) (h2 : WordsEq a b) : WordsEq (w :: a) (x :: b) := WordsEq.app (WordsEq.one h hr) h2
theorem wordsGo_eq {cursor : Int} : ∀ (l : List ItemD) (i : Nat), (∀ a ∈ l, itemP a = 0) → WordsEq (wordsGoQ cursor i l) (wordsGo cursor i l) := by
 have bar : ∀ i : Nat, WordsEq (if (i : Int) = cursor then [[124]] else []) (if (i : Int) = cursor then [[124]] else []) := by
  intro i
  split
  ·exact WordsEq.one (by decide) (by decide)
  ·exact WordsEq.nil
 intro l
 induction l with
 | nil => intro i _; exact bar i
 | cons a l ih =>
   intro i h
   obtain ⟨h1, h2⟩ := item_bytes (h a List.mem_cons_self)
   exact WordsEq.app (bar i) (WordsEq.cons h1 h2 (ih (i + 1) (fun x hx => h x (List.mem_cons_of_mem _ hx))))
theorem words_eq {cursor : Int} {l : List ItemD} (h : itemsP l = 0) : WordsEq (wordsQ l cursor) (wordsP l cursor) := wordsGo_eq l 0 (items_ok h).2
theorem WordsEq.none {a : List (List Int)} {b : List Word} (h : WordsEq a b) : a = [] ↔ b = [] := by rw [← h.1]; simp
theorem side_eq {s : SideD} (h : itemsP s.before = 0 ∧ itemsP s.source = 0 ∧ itemsP s.after = 0) : WordsEq (sideQ s) (sideW s) := by
 have w1 := words_eq (cursor := -1) h.1
 have w2 := words_eq (cursor := s.cursor) h.2.1
 have w3 := words_eq (cursor := -1) h.2.2
 have one : ∀ x : Int, ∀ y : UInt8, bytesOf [x] = [y] → rightB x = true → WordsEq [[x]] [[y]] := fun x y h1 h2 => WordsEq.one h1 (by simp [h2])
 have ws : WordsEq (if s.start = true then [[94]] else []) (if s.start = true then [[94]] else []) := by
  split
  ·exact one _ _ (by decide) (by decide)
  ·exact WordsEq.nil
 have wa := WordsEq.app ws w1
 unfold sideQ sideW
 simp only
 have wb : WordsEq (if (if s.start = true then [[94]] else []) ++ wordsQ s.before (-1) = [] then [] else [[123]]) (if (if s.start = true then [[94]] else []) ++ wordsP s.before (-1) = [] then [] else [[123]]) := by
  by_cases hn : (if s.start = true then [[94]] else []) ++ wordsQ s.before (-1) = []
  ·rw [if_pos hn, if_pos (wa.none.1 hn)]; exact WordsEq.nil
  ·rw [if_neg hn, if_neg (fun e => hn (wa.none.2 e))]; exact one _ _ (by decide) (by decide)
 have wc : WordsEq (if s.fin = true ∨ 0 < s.after.length then [125] :: wordsQ s.after (-1) else []) (if s.fin = true ∨ 0 < s.after.length then [125] :: wordsP s.after (-1) else []) := by
  split
  ·exact WordsEq.cons (by decide) (by decide) w3
  ·exact WordsEq.nil
 have wd : WordsEq (if s.fin = true then [[36]] else []) (if s.fin = true then [[36]] else []) := by
  split
  ·exact one _ _ (by decide) (by decide)
  ·exact WordsEq.nil
 exact WordsEq.app (WordsEq.app (WordsEq.app (WordsEq.app wa wb) w2) wc) wd
theorem dir_eq (d : Int) : bytesOf (dirQ d) = dirW d ∧ (dirQ d).all rightB = true := by
 unfold dirQ dirW
 split
 ·exact ⟨by decide, by decide⟩
 ·split
  ·exact ⟨by decide, by decide⟩
  ·exact ⟨by decide, by decide⟩
theorem part_eq {p : PartD} (h : partP p = 0) : WordsEq (partQ p) (partW p) := by
 rcases part_kinds h with ⟨h1, hn, hs⟩ | ⟨h3, hs⟩ | ⟨h4, hn⟩ | ⟨h2, hr⟩
 ·have e1 : partQ p = [36 :: nameR p.name, [61], printR p.set] := by unfold partQ; rw [if_pos h1]
  have e2 : partW p = [36 :: p.name.data.toList, [61], setW p.set] := by unfold partW; rw [if_pos h1]
  rw [e1, e2]
  obtain ⟨n1, n2⟩ := name_bytes (named_word hn)
  obtain ⟨s1, s2⟩ := set_bytes hs
  refine WordsEq.cons ?_ ?_ (WordsEq.cons (by decide) (by decide) (WordsEq.one s1 s2))
  ·show bytesOf ([36] ++ nameR p.name) = _
   rw [bytesOf_app, n1]
   rfl
  ·rw [List.all_cons, n2]; decide
 ·have e1 : partQ p = [[58, 58], printR p.set] := by unfold partQ; rw [if_neg (by omega), if_pos h3]
  have e2 : partW p = [[58, 58], setW p.set] := by unfold partW; rw [if_neg (by omega), if_pos h3]
  rw [e1, e2]
  obtain ⟨s1, s2⟩ := set_bytes hs
  exact WordsEq.cons (by decide) (by decide) (WordsEq.one s1 s2)
 ·have e1 : partQ p = [[58, 58], nameR p.name] := by unfold partQ; rw [if_neg (by omega), if_neg (by omega), if_pos h4]
  have e2 : partW p = [[58, 58], p.name.data.toList] := by unfold partW; rw [if_neg (by omega), if_neg (by omega), if_pos h4]
  rw [e1, e2]
  obtain ⟨n1, n2⟩ := name_bytes (pass_word hn)
  exact WordsEq.cons (by decide) (by decide) (WordsEq.one n1 n2)
 ·have e1 : partQ p = sideQ p.left ++ dirQ p.dir :: sideQ p.right := by unfold partQ; rw [if_neg (by omega), if_neg (by omega), if_neg (by omega)]
  have e2 : partW p = sideW p.left ++ dirW p.dir :: sideW p.right := by unfold partW; rw [if_neg (by omega), if_neg (by omega), if_neg (by omega)]
  rw [e1, e2]
  exact WordsEq.app (side_eq hr.2.1) (WordsEq.cons (dir_eq _).1 (dir_eq _).2 (side_eq hr.2.2))
theorem file_eq {l : List PartD} (h : ∀ p ∈ l, partP p = 0) : bytesOf (fileQ l) = fileT l ∧ (fileQ l).all rightB = true := by
 induction l with
 | nil => exact ⟨rfl, rfl⟩
 | cons a l ih =>
   obtain ⟨i1, i2⟩ := ih (fun x hx => h x (List.mem_cons_of_mem _ hx))
   obtain ⟨w1, w2⟩ := part_eq (h a List.mem_cons_self)
   have e1 : fileQ (a :: l) = flatQ (partQ a) ++ ([59, 10] ++ fileQ l) := by simp [fileQ, partTQ]
   have e2 : fileT (a :: l) = (partW a).flatMap (fun w => w ++ [32]) ++ ([59, 10] ++ fileT l) := by simp [fileT, partT]
   rw [e1, e2, bytesOf_app, bytesOf_app, i1, bytesOf_flat, w1]
   refine ⟨rfl, ?_⟩
   rw [List.all_append, List.all_append, i2]
   have : (flatQ (partQ a)).all rightB = true := by
    rw [List.all_eq_true]
    intro x hx
    unfold flatQ at hx
    obtain ⟨w, hw, hxw⟩ := List.mem_flatMap.1 hx
    rcases List.mem_append.1 hxw with hxw | hxw
    ·exact List.all_eq_true.1 (w2 w hw) x hxw
    ·rw [List.mem_singleton.1 hxw]; decide
   rw [this]
   decide
theorem file_turn {l : List PartD} (h0 : (fileP l).1 = 0) (hlen : (fileT l).length ≤ 16000) : rulesP (runesOf ⟨(fileT l).toArray⟩ 0) = (l.map bareD, (0, 0)) := by
 obtain ⟨_, _, hall⟩ := file_ok h0
 obtain ⟨h1, h2⟩ := file_eq hall
 rw [← h1, (turn_runes _ h2).1]
 refine file_text_read h2 h0 ?_
 have key : ∀ l : List Int, l.all rightB = true → l.length ≤ (bytesOf l).length := by
  intro l
  induction l with
  | nil => simp
  | cons x l ih =>
    intro h
    simp only [List.all_cons, Bool.and_eq_true] at h
    have := ih h.2
    show l.length + 1 ≤ (bytesOf ([x] ++ l)).length
    rw [bytesOf_app, List.length_append]
    have : 1 ≤ (bytesOf [x]).length := by
     simp only [bytesOf, List.flatMap_cons, List.flatMap_nil, List.append_nil]
     rw [← Lib.runeCells_length]
     exact (Lib.runeCells_le x).1
    omega
 have := key _ h2
 rw [h1] at this
 omega
end Go.Proofs.YthnhbcohfoodlaaGreatDoor

namespace Go.Proofs.YthnhbcohfoodlaaGreatDoor
open Go.RowKit
theorem ItemsZ.toX {w : World} {X : Nat → Prop} {u : Value} {l : List ItemD} (h : ItemsZ w X u l) (hg : ∀ a ∈ l, ItG a) : ∃ A n c, u = .slice A n c ∧ ItemsX w X A n l ∧ n ≤ maxLen := by
 obtain ⟨A, n, c, rfl, ⟨css, h1, h2, h3, h4, h5⟩, _, hn⟩ := h
 refine ⟨A, n, c, rfl, ⟨css, h1, h2, fun i a cs ha hc => ?_, h4, h5⟩, by unfold maxLen; omega⟩
 obtain ⟨A', n', c', e, g1, g2, g3⟩ := h3 i a cs ha hc
 obtain ⟨_, k1, k2⟩ := hg a (List.mem_of_getElem? ha)
 exact ⟨A', n', c', e, g1, g3, by unfold i64R; omega, by unfold maxLen; omega⟩
theorem side_cur {L : List Int} {i : Nat} {v : SideD} {j : Nat} (h : sideR L i = .ok (v, j)) : -1 ≤ v.cursor ∧ v.cursor ≤ 20 := by
 have one : ∀ {i : Nat} {l : List ItemD} {c : Int} {j : Nat}, itemsR L i = .ok ((l, c), j) → -1 ≤ c ∧ c ≤ 20 := fun h => itemsR_cur _ _ _ _ (Nat.zero_le _) (by decide) (by decide) h
 unfold sideR at h
 cases hh : headR L (decide (pk L (spaceP L i) = 94)) (if pk L (spaceP L i) = 94 then spaceP L i + 1 else spaceP L i) with
 | error e => rw [hh] at h; cases h
 | ok q =>
   obtain ⟨⟨b, s, c⟩, j1⟩ := q
   rw [hh] at h
   simp only at h
   have h1 : -1 ≤ c ∧ c ≤ 20 := by
    unfold headR at hh
    cases hi : itemsR L (if pk L (spaceP L i) = 94 then spaceP L i + 1 else spaceP L i) with
    | error e => rw [hi] at hh; cases hh
    | ok q =>
      obtain ⟨⟨l, c1⟩, j2⟩ := q
      rw [hi] at hh
      simp only at hh
      split at hh
      ·split at hh
       ·cases hh
       ·cases hi2 : itemsR L (j2 + 1) with
        | error e => rw [hi2] at hh; cases hh
        | ok q =>
          obtain ⟨⟨l2, c2⟩, j3⟩ := q
          rw [hi2] at hh
          simp only at hh
          injection hh with hh; injection hh with hh hh2; injection hh with hh3 hh4; injection hh4 with hh5 hh6
          subst hh6
          exact one hi2
      ·split at hh
       ·cases hh
       ·injection hh with hh; injection hh with hh hh2; injection hh with hh3 hh4; injection hh4 with hh5 hh6
        subst hh6
        exact one hi
   cases ht : tailR L j1 with
   | error e => rw [ht] at h; cases h
   | ok q =>
     obtain ⟨⟨a, fin⟩, k⟩ := q
     rw [ht] at h
     simp only at h
     injection h with h; injection h with h3 h4
     subst h3
     exact h1
def SxPost (w : World) (C : Nat) (A : Option Addr) (n c : Nat) (L : List Int) (r : Rdg SideD) (e : Ending) (w' : World) : Prop :=
 match r with
 | .ok (d, j) => (∃ A1 n1 c1 A2 n2 c2 A3 n3 c3, e = .returned (.agg #[.bool d.start, .bool d.fin, .slice A1 n1 c1, .slice A2 n2 c2, .slice A3 n3 c3, .int .i64 d.cursor]) ∧ SideX w' (fun b => w.heap.size ≤ b ∧ b ≠ C) d [.bool d.start, .bool d.fin, .slice A1 n1 c1, .slice A2 n2 c2, .slice A3 n3 c3, .int .i64 d.cursor]) ∧ CurAt w' C A n c L j ∧ But w C w'
 | .error (x, p) => e = thrown x p ∧ But w C w'
theorem rd_side_x (w : World) (C : Nat) (A : Option Addr) (n c : Nat) (L : List Int) (i : Nat) (h : CurAt w C A n c L i) (hL : ValidL L) (hn : n ≤ 100000) :
 Calls Tryz.prog 100 #[.pointer (some ⟨C, 0, none⟩)] w (SxPost w C A n c L (sideR L i)) := by
 refine (rd_side w C A n c L i h hL hn).mono ?_
 intro e w' hp
 cases hr : sideR L i with
 | error e0 => rw [hr] at hp; exact hp
 | ok q =>
   obtain ⟨d, j⟩ := q
   rw [hr] at hp
   obtain ⟨⟨u1, u2, u3, he, h1, h2, h3⟩, hc, hb⟩ := hp
   obtain ⟨g1, g2, g3⟩ := sideR_good hr
   have hk : Keeps w' (fun b => w.heap.size + 2 ≤ b ∧ b ≠ C) w' (fun b => w.heap.size ≤ b ∧ b ≠ C) := Keeps.refl (fun b hb => ⟨by have := hb.1; omega, hb.2⟩)
   obtain ⟨A1, n1, c1, rfl, x1, m1⟩ := (h1.keep hk).toX g1
   obtain ⟨A2, n2, c2, rfl, x2, m2⟩ := (h2.keep hk).toX g2
   obtain ⟨A3, n3, c3, rfl, x3, m3⟩ := (h3.keep hk).toX g3
   have hcu := side_cur hr
   exact ⟨⟨A1, n1, c1, A2, n2, c2, A3, n3, c3, he, A1, n1, c1, A2, n2, c2, A3, n3, c3, rfl, x1, x2, x3, m1, m2, m3, by unfold i64R; omega⟩, hc, hb⟩
structure PtFr (w : World) (C : Nat) (A : Option Addr) (n c : Nat) (L : List Int) (wr : World) (j : Nat) : Prop where
 cur : CurLo w.heap.size wr C A n c L j
 but : But w C wr
 res : Blk wr w.heap.size 98 #[.int .i64 0, .string ⟨#[]⟩, .slice none 0 0, .int .i64 0, .bool false, .bool false, .slice none 0 0, .slice none 0 0, .slice none 0 0, .int .i64 0, .bool false, .bool false, .slice none 0 0, .slice none 0 0, .slice none 0 0, .int .i64 0]
section
variable {w wr w' : World} {C : Nat} {A : Option Addr} {n c : Nat} {L : List Int} {j j' : Nat}
theorem PtFr.step (h : PtFr w C A n c L wr j) (hc : CurAt w' C A n c L j') (hb : But wr C w') : PtFr w C A n c L w' j' := by
 have hC := h.cur.lt
 exact ⟨h.cur.but hc hb, h.but.trans hb, (hb.2.2.2.2 _ h.res.lt (by omega)).trans h.res⟩
theorem PtFr.below (h : PtFr w C A n c L wr j) (hb : Below wr.heap.size wr w') : PtFr w C A n c L w' j := by
 have hb2 := hb.mono h.but.1
 exact ⟨h.cur.below hb2, but_below h.but hb2, h.res.below hb h.res.lt⟩
theorem PtFr.put (h : PtFr w C A n c L wr j) {P : Nat} (hP : w.heap.size < P) (k : Nat) (u : Value) : PtFr w C A n c L (wr.setCell ⟨P, k, none⟩ u) j := by
 have hb := (But.set wr P k u)
 have hb2 := hb.to (B := w.heap.size) h.but.1 (Nat.le_of_lt hP)
 exact ⟨h.cur.below hb2, but_below h.but hb2, (hb.2.2.2.2 _ h.res.lt (by omega)).trans h.res⟩
end
theorem pt_start (w : World) (C : Nat) (A : Option Addr) (n c : Nat) (L : List Int) (i : Nat) (h : CurAt w C A n c L i) : PtFr w C A n c L (w.alloc (.cells #[.int .i64 0, .string ⟨#[]⟩, .slice none 0 0, .int .i64 0, .bool false, .bool false, .slice none 0 0, .slice none 0 0, .slice none 0 0, .int .i64 0, .bool false, .bool false, .slice none 0 0, .slice none 0 0, .slice none 0 0, .int .i64 0] 98)) i := by
 have hb : Below w.heap.size w (w.alloc (.cells #[.int .i64 0, .string ⟨#[]⟩, .slice none 0 0, .int .i64 0, .bool false, .bool false, .slice none 0 0, .slice none 0 0, .slice none 0 0, .int .i64 0, .bool false, .bool false, .slice none 0 0, .slice none 0 0, .slice none 0 0, .int .i64 0] 98)) := (Below.refl _ _).alloc (Nat.le_refl _) _
 exact ⟨(CurLo.start h).below hb, But.below C hb, Blk.new _ _ _⟩
def PtX (w : World) (C b : Nat) : Prop := w.heap.size < b ∧ b ≠ C
theorem blk_step {w w' : World} {C P : Nat} {t : TypeId} {cs : Array Value} (h : Blk w P t cs) (hb : But w C w') (hP : P ≠ C) : Blk w' P t cs := (hb.2.2.2.2 _ h.lt hP).trans h
def PtPost (w : World) (C : Nat) (A : Option Addr) (n c : Nat) (L : List Int) (r : Rdg PartD) (e : Ending) (w' : World) : Prop :=
 match r with
 | .ok (d, j) => (∃ cs : List Value, e = .returned (.agg cs.toArray) ∧ PartX w' (PtX w C) d cs) ∧ CurAt w' C A n c L j ∧ But w C w'
 | .error (x, p) => e = thrown x p ∧ But w C w'
theorem pt_done {w wr : World} {C : Nat} {A : Option Addr} {n c : Nat} {L : List Int} {j : Nat} {d : PartD} {vs : List Value} (h : PtFr w C A n c L wr j) (hp : PartX wr (PtX w C) d vs) :
 vs.toArray.all (·.oneCell') = true ∧ CurAt (wr.setRow w.heap.size vs.toArray) C A n c L j ∧ But w C (wr.setRow w.heap.size vs.toArray) ∧
 Blk (wr.setRow w.heap.size vs.toArray) w.heap.size 98 vs.toArray ∧ PartX (wr.setRow w.heap.size vs.toArray) (PtX w C) d vs := by
 have hb := (row_but wr w.heap.size vs.toArray).to (B := w.heap.size) h.but.1 (Nat.le_refl _)
 have hk : Keeps wr (PtX w C) (wr.setRow w.heap.size vs.toArray) (PtX w C) := (row_but wr w.heap.size vs.toArray).keeps (fun b hb => by have := hb.1; omega) (fun _ h _ => h)
 exact ⟨by rw [Array.all_eq_true_iff_forall_mem]; intro u hu; exact hp.one.2 u (by simpa using hu), (h.cur.below hb).cur, but_below h.but hb, row_blk h.res, hp.keep hk⟩
theorem infoPt : (Tryz.prog.info? 98).map (·.size) = some 16 := by kernel_rfl
theorem structPt : ∃ fs, Tryz.prog.underlying 98 = some (.struct fs) := ⟨_, Tryz.underlying98⟩
theorem wordT_size (L : List Int) (a : Nat) : (wordT L a).size ≤ 4 * L.length := by
 unfold wordT
 have h1 := runesBytes_size_le (textAt L a (wordEnd L a))
 have h2 : (textAt L a (wordEnd L a)).length ≤ L.length := by unfold textAt; rw [List.length_take, List.length_drop]; omega
 omega
end Go.Proofs.YthnhbcohfoodlaaGreatDoor
