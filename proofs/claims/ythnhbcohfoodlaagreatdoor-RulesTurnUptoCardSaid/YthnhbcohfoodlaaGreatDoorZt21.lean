/- RulesText2 + WdRel -/
import Derived.Test.YthnhbcohfoodlaaGreatDoorZt20
import Derived.Test.YthnhbcohfoodlaaGreatDoorZt7
namespace Go.Proofs.YthnhbcohfoodlaaGreatDoor
open Go.RowKit
theorem wordsQ_head (P : Int → Prop) (hP : ∀ x, wordHead x → P x) (cursor : Int) (l : List ItemD) (i : Nat) (L : List Int) (p : Nat) (X : List Int) (hA : At L p (flatQ (wordsGoQ cursor i l) ++ X)) (hs : P (pk L (p + (flatQ (wordsGoQ cursor i l)).length))) : P (pk L p) := by
 have bar : ∀ Y, At L p (124 :: Y) → P (pk L p) := fun Y h => by rw [h.pk]; exact hP _ (.inr (.inr (.inr rfl)))
 cases l with
 | nil =>
   unfold wordsGoQ at hA hs
   split at hA
   ·exact bar _ hA
   ·rename_i h
    rw [if_neg h] at hs
    exact hs
 | cons a l =>
   unfold wordsGoQ at hA
   split at hA
   ·exact bar _ hA
   ·obtain ⟨x, t, e, hh⟩ := itemQ_head (a := a)
    rw [List.nil_append, flatQ_cons, e] at hA
    rw [At.pk hA]
    exact hP _ (by rcases hh with h | h | h; exact .inl h; exact .inr (.inl h); exact .inr (.inr (.inl h)))
theorem wordsQ_none (l : List ItemD) : wordsQ l (-1) = [] ↔ l = [] := by
 unfold wordsQ
 cases l with
 | nil => simp [wordsGoQ]
 | cons a l => simp [wordsGoQ]
def EndAt (L : List Int) (p : Nat) : Prop := pk L p = 59 ∨ pk L p = 60 ∨ pk L p = 62
theorem EndAt.stop {L : List Int} {p : Nat} (h : EndAt L p) : StopAt L p := stop_of (by rcases h with h | h | h <;> omega)
theorem EndAt.ne {L : List Int} {p : Nat} (h : EndAt L p) : pk L p ≠ 123 ∧ pk L p ≠ 125 ∧ pk L p ≠ 94 ∧ pk L p ≠ 36 := by rcases h with h | h | h <;> omega
theorem head_brace {L : List Int} {q p : Nat} {start : Bool} {B S : List ItemD} {cursor : Int} {X : List Int} (hA : At L p (flatQ (wordsQ B (-1)) ++ (123 :: 32 :: (flatQ (wordsQ S cursor) ++ X)))) (hs : StopAt L (p + (flatQ (wordsQ B (-1))).length + 2 + (flatQ (wordsQ S cursor)).length))
 (hq : spaceP L q = p) (hB : itemsP B = 0) (hS : itemsP S = 0) (h1 : -1 ≤ cursor) (h2 : cursor ≤ S.length) : headR L start q = .ok ((B.map bareI, S.map bareI, cursor), p + (flatQ (wordsQ B (-1))).length + 2 + (flatQ (wordsQ S cursor)).length) := by
 have A2 := At.right hA
 have A4 := At.tail (At.tail A2)
 have hso := wordsGoQ_head cursor S 0 L _ X A4 hs.1
 have r1 := itemsR_read (X := 123 :: 32 :: (flatQ (wordsQ S cursor) ++ X)) hA (stop_of (.inl A2.pk)) hq hB (by decide) (by omega)
 have r2 := itemsR_read A4 hs (after_word (At.tail A2) hso) hS h1 h2
 unfold headR
 rw [r1]
 simp only
 rw [if_pos A2.pk, if_neg (by decide), r2]
theorem head_plain {L : List Int} {q p : Nat} {S : List ItemD} {cursor : Int} {X : List Int} (hA : At L p (flatQ (wordsQ S cursor) ++ X)) (hs : StopAt L (p + (flatQ (wordsQ S cursor)).length)) (h123 : pk L (p + (flatQ (wordsQ S cursor)).length) ≠ 123)
 (hq : spaceP L q = p) (hS : itemsP S = 0) (h1 : -1 ≤ cursor) (h2 : cursor ≤ S.length) : headR L false q = .ok (([], S.map bareI, cursor), p + (flatQ (wordsQ S cursor)).length) := by
 unfold headR
 rw [itemsR_read hA hs hq hS h1 h2]
 simp only
 rw [if_neg h123, if_neg (by decide)]
def tailQ (s : SideD) : List (List Int) := (if s.fin = true ∨ 0 < s.after.length then [125] :: wordsQ s.after (-1) else []) ++ (if s.fin = true then [[36]] else [])
theorem tail_read {L : List Int} {e : Nat} {s : SideD} {X : List Int} (hA : At L e (flatQ (tailQ s) ++ X)) (hE : EndAt L (e + (flatQ (tailQ s)).length)) (hS : itemsP s.after = 0) :
 StopAt L e ∧ pk L e ≠ 123 ∧ pk L e ≠ 94 ∧ ∃ k, tailR L e = .ok ((s.after.map bareI, s.fin), k) ∧ spaceP L k = e + (flatQ (tailQ s)).length := by
 unfold tailQ at hA hE ⊢
 by_cases hf : s.fin = true
 ·rw [if_pos (.inl hf), if_pos hf] at hA hE ⊢
  have el : e + (flatQ ([125] :: wordsQ s.after (-1) ++ [[36]])).length = e + 2 + (flatQ (wordsQ s.after (-1))).length + 2 := by simp only [List.cons_append, List.nil_append, flatQ_cons, flatQ_app, flatQ_nil, List.length_append, List.length_cons, List.length_nil]; omega
  rw [el] at hE ⊢
  have A1 : At L e (125 :: 32 :: (flatQ (wordsQ s.after (-1)) ++ (36 :: 32 :: X))) := hA.of (by rw [List.cons_append, flatQ_cons, flatQ_app]; simp [flatQ])
  have A3 := At.tail (At.tail A1)
  have A4 := At.right A3
  have hp36 := A4.pk
  have hst : StopAt L (e + 2 + (flatQ (wordsQ s.after (-1))).length) := stop_of (by right; right; right; right; right; exact ⟨hp36, (At.tail A4).pk⟩)
  have hso := wordsGoQ_head (-1) s.after 0 L _ _ A3 hst.1
  have hp := A1.pk
  refine ⟨stop_of (.inr (.inl hp)), by omega, by omega, e + 2 + (flatQ (wordsQ s.after (-1))).length + 1, ?_, ?_⟩
  ·unfold tailR
   rw [if_pos hp, itemsR_read A3 hst (after_word (At.tail A1) hso) hS (by decide) (by omega)]
   simp only
   rw [if_neg (by decide), if_pos hp36, hf]
  ·exact after_word (At.tail A4) hE.stop.1
 ·rw [if_neg hf, List.append_nil] at hA hE ⊢
  have hff : s.fin = false := by simpa using hf
  by_cases ha : 0 < s.after.length
  ·rw [if_pos (.inr ha)] at hA hE ⊢
   have el : e + (flatQ ([125] :: wordsQ s.after (-1))).length = e + 2 + (flatQ (wordsQ s.after (-1))).length := by simp only [List.cons_append, List.nil_append, flatQ_cons, List.length_cons]; omega
   rw [el] at hE ⊢
   have A1 : At L e (125 :: 32 :: (flatQ (wordsQ s.after (-1)) ++ X)) := hA.of (by rw [flatQ_cons]; simp)
   have A3 := At.tail (At.tail A1)
   have hso := wordsGoQ_head (-1) s.after 0 L _ _ A3 hE.stop.1
   have hp := A1.pk
   refine ⟨stop_of (.inr (.inl hp)), by omega, by omega, e + 2 + (flatQ (wordsQ s.after (-1))).length, ?_, ?_⟩
   ·unfold tailR
    rw [if_pos hp, itemsR_read A3 hE.stop (after_word (At.tail A1) hso) hS (by decide) (by omega)]
    simp only
    rw [if_neg (by decide), if_neg hE.ne.2.2.2, hff]
   ·exact space_solid hE.stop.1
  ·have hn : ¬ (s.fin = true ∨ 0 < s.after.length) := by rintro (h | h); exact hf h; exact ha h
   rw [if_neg hn] at hA hE ⊢
   have hE' : EndAt L e := hE
   have e0 : s.after = [] := List.eq_nil_of_length_eq_zero (by omega)
   refine ⟨hE'.stop, hE'.ne.1, hE'.ne.2.2.1, e, ?_, ?_⟩
   ·unfold tailR
    rw [if_neg hE'.ne.2.1, e0, hff]
    rfl
   ·exact space_solid hE'.stop.1
theorem sideQ_eq (s : SideD) : sideQ s = (if s.start = true then [94] :: (wordsQ s.before (-1) ++ [123] :: wordsQ s.source s.cursor) else if s.before = [] then wordsQ s.source s.cursor else wordsQ s.before (-1) ++ [123] :: wordsQ s.source s.cursor) ++ tailQ s := by
 unfold sideQ tailQ
 by_cases h : s.start = true
 ·simp [h]
 ·by_cases hb : s.before = []
  ·have h2 := (wordsQ_none []).2 rfl
   simp [h, hb, h2]
  ·have : wordsQ s.before (-1) ≠ [] := fun e => hb ((wordsQ_none _).1 e)
   simp [h, hb, this]
theorem side_begin {L : List Int} {p : Nat} {s : SideD} {X : List Int} (hA : At L p (flatQ (sideQ s) ++ X)) (hE : EndAt L (p + (flatQ (sideQ s)).length)) : solidB (pk L p) := by
 rw [sideQ_eq, flatQ_app, List.append_assoc] at hA
 rw [sideQ_eq, flatQ_app, List.length_append, ← Nat.add_assoc] at hE
 have tl : ∀ e, At L e (flatQ (tailQ s) ++ X) → EndAt L (e + (flatQ (tailQ s)).length) → solidB (pk L e) := by
  intro e hA hE
  unfold tailQ at hA hE
  by_cases hc : s.fin = true ∨ 0 < s.after.length
  ·rw [if_pos hc, List.cons_append, flatQ_cons] at hA
   rw [At.pk (x := 125) hA]
   exact ⟨rfl, by decide⟩
  ·rw [if_neg hc, if_neg (fun h => hc (.inl h))] at hE
   exact EndAt.stop hE |>.1
 by_cases h : s.start = true
 ·rw [if_pos h, flatQ_cons] at hA
  rw [At.pk (x := 94) hA]
  exact ⟨rfl, by decide⟩
 ·rw [if_neg h] at hA hE
  by_cases hb : s.before = []
  ·rw [if_pos hb] at hA hE
   exact wordsGoQ_head _ _ 0 L p _ hA (tl _ (At.right hA) hE)
  ·rw [if_neg hb, flatQ_app, flatQ_cons] at hA
   have hA' : At L p (flatQ (wordsQ s.before (-1)) ++ (123 :: 32 :: (flatQ (wordsQ s.source s.cursor) ++ (flatQ (tailQ s) ++ X)))) := hA.of (by simp)
   have := (At.right hA').pk
   exact wordsGoQ_head _ _ 0 L p _ hA' (by show solidB (pk L (p + (flatQ (wordsQ s.before (-1))).length)); rw [this]; exact ⟨rfl, by decide⟩)
theorem side_read {L : List Int} {q p : Nat} {s : SideD} {X : List Int} (hA : At L p (flatQ (sideQ s) ++ X)) (hE : EndAt L (p + (flatQ (sideQ s)).length)) (hq : spaceP L q = p) (hs : itemsP s.before = 0 ∧ itemsP s.source = 0 ∧ itemsP s.after = 0) (h1 : -1 ≤ s.cursor) (h2 : s.cursor ≤ s.source.length) :
 sideR L q = .ok (bareS s, p + (flatQ (sideQ s)).length) := by
 rw [sideQ_eq, flatQ_app, List.append_assoc] at hA
 rw [sideQ_eq, flatQ_app, List.length_append, ← Nat.add_assoc] at hE
 rw [sideQ_eq, flatQ_app, List.length_append, ← Nat.add_assoc]
 generalize hX : flatQ (tailQ s) ++ X = Y at hA
 have fin : ∀ (b : List ItemD) (e : Nat), e + (flatQ (tailQ s)).length = p + (flatQ (if s.start = true then [94] :: (wordsQ s.before (-1) ++ [123] :: wordsQ s.source s.cursor) else if s.before = [] then wordsQ s.source s.cursor else wordsQ s.before (-1) ++ [123] :: wordsQ s.source s.cursor)).length + (flatQ (tailQ s)).length →
  b = s.before.map bareI → At L e (flatQ (tailQ s) ++ X) → pk L p = 94 ∧ s.start = true ∨ pk L p ≠ 94 ∧ s.start = false → headR L s.start (if pk L p = 94 then p + 1 else p) = .ok ((b, s.source.map bareI, s.cursor), e) →
  sideR L q = .ok (bareS s, p + (flatQ (if s.start = true then [94] :: (wordsQ s.before (-1) ++ [123] :: wordsQ s.source s.cursor) else if s.before = [] then wordsQ s.source s.cursor else wordsQ s.before (-1) ++ [123] :: wordsQ s.source s.cursor)).length + (flatQ (tailQ s)).length) := by
  intro b e he hb hAt hst hh
  rw [← he] at hE ⊢
  obtain ⟨_, _, _, k, t1, t2⟩ := tail_read hAt hE hs.2.2
  have hd : decide (pk L p = 94) = s.start := by rcases hst with ⟨h3, h4⟩ | ⟨h3, h4⟩ <;> rw [h4] <;> simp [h3]
  unfold sideR
  rw [hq, hd, hh]
  simp only
  rw [t1]
  simp only
  rw [t2, hb]
  rfl
 have stp : ∀ e, At L e (flatQ (tailQ s) ++ X) → e + (flatQ (tailQ s)).length = p + (flatQ (if s.start = true then [94] :: (wordsQ s.before (-1) ++ [123] :: wordsQ s.source s.cursor) else if s.before = [] then wordsQ s.source s.cursor else wordsQ s.before (-1) ++ [123] :: wordsQ s.source s.cursor)).length + (flatQ (tailQ s)).length → StopAt L e ∧ pk L e ≠ 123 ∧ pk L e ≠ 94 := by
  intro e hAt he
  rw [← he] at hE
  obtain ⟨g1, g2, g3, _⟩ := tail_read hAt hE hs.2.2
  exact ⟨g1, g2, g3⟩
 by_cases h : s.start = true
 ·rw [if_pos h] at hA fin stp
  have A1 : At L p (94 :: 32 :: (flatQ (wordsQ s.before (-1)) ++ (123 :: 32 :: (flatQ (wordsQ s.source s.cursor) ++ Y)))) := hA.of (by rw [flatQ_cons, flatQ_app, flatQ_cons]; simp)
  have A3 := At.tail (At.tail A1)
  have A4 := At.tail (At.tail (At.right A3))
  have A5 := At.right A4
  rw [← hX] at A5
  have he : p + 1 + 1 + (flatQ (wordsQ s.before (-1))).length + 1 + 1 + (flatQ (wordsQ s.source s.cursor)).length + (flatQ (tailQ s)).length = p + (flatQ ([94] :: (wordsQ s.before (-1) ++ [123] :: wordsQ s.source s.cursor))).length + (flatQ (tailQ s)).length := by
   rw [flatQ_cons, flatQ_app, flatQ_cons]; simp; omega
  have hst := stp _ A5 he
  have hso := wordsGoQ_head (-1) s.before 0 L _ _ A3 (by show solidB (pk L (p + 1 + 1 + (flatQ (wordsQ s.before (-1))).length)); rw [(At.right A3).pk]; exact ⟨rfl, by decide⟩)
  have := fin _ _ he rfl A5 (.inl ⟨A1.pk, h⟩) (by
   rw [if_pos A1.pk, h]
   exact head_brace A3 hst.1 (after_word (At.tail A1) hso) hs.1 hs.2.1 h1 h2)
  rw [if_pos h]
  exact this
 ·have hf : s.start = false := by simpa using h
  rw [if_neg h] at hA fin stp
  by_cases hb : s.before = []
  ·rw [if_pos hb] at hA fin stp
   have A5 := At.right hA
   rw [← hX] at A5
   have hst := stp _ A5 rfl
   have h94 : pk L p ≠ 94 := wordsQ_head (· ≠ 94) (fun x hx => (wordHead_solid hx).2.2.1) _ _ 0 L p _ hA hst.2.2
   have := fin [] _ rfl (by rw [hb]; rfl) A5 (.inr ⟨h94, hf⟩) (by
    rw [if_neg h94, hf]
    exact head_plain hA hst.1 hst.2.1 (space_solid (wordsGoQ_head _ _ 0 L p _ hA hst.1.1)) hs.2.1 h1 h2)
   rw [if_neg h, if_pos hb]
   exact this
  ·rw [if_neg hb] at hA fin stp
   have A3 : At L p (flatQ (wordsQ s.before (-1)) ++ (123 :: 32 :: (flatQ (wordsQ s.source s.cursor) ++ Y))) := hA.of (by rw [flatQ_app, flatQ_cons]; simp)
   have A4 := At.tail (At.tail (At.right A3))
   have A5 := At.right A4
   rw [← hX] at A5
   have he : p + (flatQ (wordsQ s.before (-1))).length + 1 + 1 + (flatQ (wordsQ s.source s.cursor)).length + (flatQ (tailQ s)).length = p + (flatQ (wordsQ s.before (-1) ++ [123] :: wordsQ s.source s.cursor)).length + (flatQ (tailQ s)).length := by
    rw [flatQ_app, flatQ_cons]; simp; omega
   have hst := stp _ A5 he
   have hp := (At.right A3).pk
   have h94 : pk L p ≠ 94 := wordsQ_head (· ≠ 94) (fun x hx => (wordHead_solid hx).2.2.1) _ _ 0 L p _ A3 (by show pk L (p + (flatQ (wordsQ s.before (-1))).length) ≠ 94; rw [hp]; decide)
   have hso := wordsGoQ_head (-1) s.before 0 L _ _ A3 (by show solidB (pk L (p + (flatQ (wordsQ s.before (-1))).length)); rw [hp]; exact ⟨rfl, by decide⟩)
   have := fin _ _ he rfl A5 (.inr ⟨h94, hf⟩) (by
    rw [if_neg h94, hf]
    exact head_brace A3 hst.1 (space_solid hso) hs.1 hs.2.1 h1 h2)
   rw [if_neg h, if_neg hb]
   exact this
theorem item_bare (a : ItemD) : itemP (bareI a) = itemP a := by
 unfold itemP bareI
 by_cases h1 : a.kind = 1
 ·simp [h1]
 ·by_cases h2 : a.kind = 2
  ·simp [h2]
  ·by_cases h3 : a.kind = 3
   ·simp [h3]
   ·simp [h1, h2, h3]
theorem items_bare (l : List ItemD) : itemsP (l.map bareI) = itemsP l := by
 have key : ∀ l : List ItemD, itemsGo (l.map bareI) = itemsGo l := by
  intro l
  induction l with
  | nil => rfl
  | cons a l ih => rw [List.map_cons, itemsGo, itemsGo, item_bare, ih]
 unfold itemsP
 rw [List.length_map, key]
theorem side_bare (s : SideD) (must : Bool) : sideP (bareS s) must = sideP s must := by
 have h1 : itemsAll [(bareS s).before, (bareS s).source, (bareS s).after] = itemsAll [s.before, s.source, s.after] := by simp only [itemsAll, bareS, items_bare]
 have h2 : (bareS s).source.length = s.source.length := by simp [bareS]
 have h3 : (bareS s).cursor = s.cursor := rfl
 unfold sideP
 rw [h1, h2, h3]
theorem tells_bare (l : List ItemD) : tellsB (l.map bareI) = tellsB l := by
 unfold tellsB
 rw [List.all_map]
 rfl
theorem around_bare (s : SideD) : aroundB (bareS s) = aroundB s := by unfold aroundB bareS; simp only [List.length_map]
theorem rule_bare (d : Int) (a b : SideD) : ruleP d (bareS a) (bareS b) = ruleP d a b := by
 have h1 : tellsB (bareS a).source = tellsB a.source := tells_bare _
 have h2 : tellsB (bareS b).source = tellsB b.source := tells_bare _
 have h3 : (bareS a).cursor = a.cursor := rfl
 have h4 : (bareS b).cursor = b.cursor := rfl
 have hf : fitB d (bareS a) (bareS b) = fitB d a b := by unfold fitB; rw [h1, h2, h3, h4, around_bare, around_bare]
 unfold ruleP
 rw [side_bare, side_bare, hf]
theorem side_range {s : SideD} {must : Bool} (h : sideP s must = 0) : -1 ≤ s.cursor ∧ s.cursor ≤ s.source.length := by
 unfold sideP at h
 split at h
 ·split at h
  ·cases h
  ·omega
 ·rename_i h0; exact absurd h h0
theorem rule_kinds {p : PartD} (h2 : p.kind = 2) (h : partP p = 0) : (p.dir = 1 ∨ p.dir = 2 ∨ p.dir = 3) ∧ sideP p.left (p.dir != 2) = 0 ∧ sideP p.right (p.dir != 1) = 0 := by
 unfold partP at h
 rw [if_neg (by omega), if_neg (by omega), if_neg (by omega), if_pos h2] at h
 unfold ruleP at h
 split at h
 ·cases h
 ·split at h
  ·rename_i h3 h4
   refine ⟨by omega, h4, ?_⟩
   split at h
   ·assumption
   ·rename_i h5; exact absurd h h5
  ·rename_i h3; exact absurd h h3
theorem rule_first {L : List Int} {i j : Nat} {v : PartD} (h : ruleR L i = .ok (v, j)) : pk L i ≠ 58 ∧ ¬ (pk L i = 36 ∧ pk L (spaceP L (wordEnd L (i + 1))) = 61) := by
 have stay : ∀ k : Nat, solidB (pk L k) → pk L k ≠ 123 → pk L k ≠ 125 → pk L k ≠ 60 → pk L k ≠ 62 → pk L i ≠ 94 → spaceP L i = i → (∀ l c, itemsR L i = .ok ((l, c), k) → False) := by
  intro k hk n1 n2 n3 n4 n5 hi l c hit
  have hs : sideR L i = .ok (⟨false, false, [], l, [], c⟩, k) := by
   unfold sideR
   rw [hi, if_neg n5, show decide (pk L i = 94) = false from decide_eq_false n5]
   unfold headR
   rw [hit]
   simp only
   rw [if_neg n1, if_neg (by decide)]
   simp only
   unfold tailR
   rw [if_neg n2]
   simp only
   rw [space_solid hk]
  unfold ruleR at h
  rw [hs] at h
  simp only at h
  unfold arrowR at h
  rw [if_neg n4, if_neg (fun x => n3 x.1), needP_not n3] at h
  cases h
 refine ⟨fun h58 => ?_, ?_⟩
 ·have hsol : solidB (pk L i) := by rw [h58]; exact ⟨rfl, by decide⟩
  have hi := space_solid hsol
  have hit : itemsR L i = .ok (([], -1), i) := by
   unfold itemsR
   refine items_stop hi ⟨hsol, fun out cur => ?_⟩
   unfold elemP
   rw [h58, if_neg (by decide), if_neg (by decide), if_neg (by rintro ⟨x, _⟩; exact absurd x (by decide)), if_neg (by decide), if_neg (by decide)]
  exact stay i hsol (by omega) (by omega) (by omega) (by omega) (by omega) hi _ _ hit
 ·rintro ⟨h36, h61⟩
  have hsol : solidB (pk L i) := by rw [h36]; exact ⟨rfl, by decide⟩
  have hi := space_solid hsol
  by_cases hlet : letB (pk L (i + 1)) = true
  ·cases hn : nameP L (i + 1) with
   | error e =>
     have hit : itemsR L i = .error e := by
      unfold itemsR
      rw [itemsF, hi]
      unfold elemP
      rw [h36, if_neg (by decide), if_neg (by decide), if_pos ⟨rfl, hlet⟩, hn]
     unfold ruleR sideR at h
     rw [hi, if_neg (by omega)] at h
     unfold headR at h
     rw [hit] at h
     cases h
   | ok q =>
     obtain ⟨s, k⟩ := q
     have hk := (nameP_ok hn).2.2.2
     subst hk
     have hsol2 : solidB (pk L (spaceP L (wordEnd L (i + 1)))) := by rw [h61]; exact ⟨rfl, by decide⟩
     have hlen : 1 ≤ L.length := by have := pk_lt (L := L) (i := i) (by omega); omega
     obtain ⟨m, hm⟩ : ∃ m, L.length = m + 1 := ⟨L.length - 1, by omega⟩
     have hit : itemsR L i = .ok (([⟨3, 0, [], s⟩], -1), spaceP L (wordEnd L (i + 1))) := by
      unfold itemsR
      rw [itemsF, hi]
      unfold elemP
      rw [h36, if_neg (by decide), if_neg (by decide), if_pos ⟨rfl, hlet⟩, hn]
      simp only
      rw [if_neg (by simp), hm]
      refine items_stop rfl ⟨hsol2, fun out cur => ?_⟩
      unfold elemP
      rw [h61, if_neg (by decide), if_neg (by decide), if_neg (by rintro ⟨x, _⟩; exact absurd x (by decide)), if_neg (by decide), if_neg (by decide)]
     exact stay _ hsol2 (by omega) (by omega) (by omega) (by omega) (by omega) hi _ _ hit
  ·have hit : itemsR L i = .ok (([], -1), i) := by
    unfold itemsR
    refine items_stop hi ⟨hsol, fun out cur => ?_⟩
    unfold elemP
    rw [h36, if_neg (by decide), if_neg (by decide), if_neg (fun x => hlet x.2), if_neg (by decide), if_neg (by decide)]
   exact stay i hsol (by omega) (by omega) (by omega) (by omega) (by omega) hi _ _ hit
theorem dirQ_read {L : List Int} {p : Nat} {d : Int} {X : List Int} (hd : d = 1 ∨ d = 2 ∨ d = 3) (hA : At L p (dirQ d ++ 32 :: X)) : EndAt L p ∧ arrowR L p = .ok (d, p + (dirQ d).length) := by
 rcases hd with rfl | rfl | rfl
 ·have hA' : At L p (62 :: 32 :: X) := hA
  have hp := hA'.pk
  refine ⟨.inr (.inr hp), ?_⟩
  unfold arrowR
  rw [if_pos hp]
  rfl
 ·have hA' : At L p (60 :: 32 :: X) := hA
  have hp := hA'.pk
  have hp2 := (At.tail hA').pk
  refine ⟨.inr (.inl hp), ?_⟩
  unfold arrowR
  rw [if_neg (by omega), if_neg (by omega), needP_at hp]
  rfl
 ·have hA' : At L p (60 :: 62 :: 32 :: X) := hA
  have hp := hA'.pk
  have hp2 := (At.tail hA').pk
  refine ⟨.inr (.inl hp), ?_⟩
  unfold arrowR
  rw [if_neg (by omega), if_pos ⟨hp, hp2⟩]
  rfl
theorem part_read {L : List Int} {q : Nat} {p : PartD} {X : List Int} (hp : partP p = 0) (hA : At L q (flatQ (partQ p) ++ 59 :: X)) : solidB (pk L q) ∧ ∃ j, partR L q = .ok (bareD p, j) ∧ spaceP L j = q + (flatQ (partQ p)).length := by
 have hend := (At.right hA).pk
 have hsol : solidB (pk L (q + (flatQ (partQ p)).length)) := by rw [hend]; exact ⟨rfl, by decide⟩
 rcases part_kinds hp with ⟨h1, hn, hs⟩ | ⟨h3, hs⟩ | ⟨h4, hn⟩ | ⟨h2, hr⟩
 ·have eq : partQ p = [36 :: nameR p.name, [61], printR p.set] := by unfold partQ; rw [if_pos h1]
  rw [eq] at hA hsol ⊢
  have hA1 : At L q (36 :: (nameR p.name ++ 32 :: (61 :: 32 :: (printR p.set ++ 32 :: 59 :: X)))) := hA.of (by simp [flatQ])
  have hA2 := At.tail hA1
  have hA3 := At.tail (At.right hA2)
  have hA4 := At.right hA2
  rw [nameR_len] at hA3 hA4
  have hA5 := At.tail (At.tail hA3)
  have h36 := hA1.pk
  obtain ⟨w1, w2⟩ := word_read (named_word hn) hA2
  have sp1 : spaceP L (q + 1 + p.name.size) = q + 1 + p.name.size + 1 := after_word hA4 (by rw [hA3.pk]; exact ⟨rfl, by decide⟩)
  have hp5 : pk L (q + 1 + p.name.size + 1 + 1 + 1) = 91 := hA5.pk
  have sp2 : spaceP L (q + 1 + p.name.size + 1 + 1) = q + 1 + p.name.size + 1 + 1 + 1 := after_word (At.tail hA3) (by rw [hp5]; exact ⟨rfl, by decide⟩)
  have hset : setP' L 20 (q + 1 + p.name.size + 1 + 1 + 1) = .ok (p.set, q + 1 + p.name.size + 1 + 1 + 1 + (printR p.set).length) := by
   obtain ⟨pre, post, e, hl⟩ := hA5
   have := set_read pre (32 :: 59 :: X ++ post) p.set 19 (right_set hs)
   rw [show pre ++ (printR p.set ++ (32 :: 59 :: X ++ post)) = L by rw [e]; simp, hl] at this
   exact this
  have hb : bareD p = ⟨1, p.name, p.set, 0, noSide, noSide⟩ := by unfold bareD; rw [h1]; rfl
  have hlen : q + 1 + p.name.size + 1 + 1 + 1 + (printR p.set).length + 1 = q + (flatQ [36 :: nameR p.name, [61], printR p.set]).length := by simp only [List.cons_append, List.nil_append, flatQ_cons, flatQ_nil, List.length_append, List.length_cons, List.length_nil, nameR_len]; omega
  refine ⟨by rw [h36]; exact ⟨rfl, by decide⟩, q + 1 + p.name.size + 1 + 1 + 1 + (printR p.set).length, ?_, by rw [after_word (At.right hA5) (by rw [hlen]; exact hsol), hlen]⟩
  ·unfold partR
   rw [if_neg (by omega), if_pos ⟨h36, by rw [w1, sp1]; exact hA3.pk⟩]
   unfold varR
   rw [name_read hn hA2]
   simp only
   rw [sp1, needP_at hA3.pk]
   simp only
   rw [sp2, hset, hb]
 ·have eq : partQ p = [[58, 58], printR p.set] := by unfold partQ; rw [if_neg (by omega), if_pos h3]
  rw [eq] at hA hsol ⊢
  have hA1 : At L q (58 :: 58 :: 32 :: (printR p.set ++ 32 :: 59 :: X)) := hA.of (by simp [flatQ])
  have hA2 := At.tail hA1
  have hA5 := At.tail (At.tail hA2)
  have h58 := hA1.pk
  have hp5 : pk L (q + 1 + 1 + 1) = 91 := hA5.pk
  have sp2 : spaceP L (q + 1 + 1) = q + 1 + 1 + 1 := after_word (At.tail hA2) (by rw [hp5]; exact ⟨rfl, by decide⟩)
  have hset : setP' L 20 (q + 1 + 1 + 1) = .ok (p.set, q + 1 + 1 + 1 + (printR p.set).length) := by
   obtain ⟨pre, post, e, hl⟩ := hA5
   have := set_read pre (32 :: 59 :: X ++ post) p.set 19 (right_set hs)
   rw [show pre ++ (printR p.set ++ (32 :: 59 :: X ++ post)) = L by rw [e]; simp, hl] at this
   exact this
  have hb : bareD p = ⟨3, noName, p.set, 0, noSide, noSide⟩ := by unfold bareD; rw [h3]; rfl
  have hlen : q + 1 + 1 + 1 + (printR p.set).length + 1 = q + (flatQ [[58, 58], printR p.set]).length := by simp only [List.cons_append, List.nil_append, flatQ_cons, flatQ_nil, List.length_append, List.length_cons, List.length_nil]; omega
  refine ⟨by rw [h58]; exact ⟨rfl, by decide⟩, q + 1 + 1 + 1 + (printR p.set).length, ?_, by rw [after_word (At.right hA5) (by rw [hlen]; exact hsol), hlen]⟩
  ·unfold partR
   rw [if_pos h58]
   unfold passR
   rw [needP_at hA2.pk]
   simp only
   rw [sp2, if_pos hp5, hset, hb]
 ·have eq : partQ p = [[58, 58], nameR p.name] := by unfold partQ; rw [if_neg (by omega), if_neg (by omega), if_pos h4]
  rw [eq] at hA hsol ⊢
  have hA1 : At L q (58 :: 58 :: 32 :: (nameR p.name ++ 32 :: 59 :: X)) := hA.of (by simp [flatQ])
  have hA2 := At.tail hA1
  have hA5 := At.tail (At.tail hA2)
  have h58 := hA1.pk
  obtain ⟨_, _, x, t, ex, g3⟩ := name_all (pass_word hn)
  have hp5 : pk L (q + 1 + 1 + 1) = x := by have h := hA5; rw [ex] at h; exact h.pk
  have hx : solidB x ∧ x ≠ 91 := by
   unfold letB at g3
   simp only [Bool.or_eq_true, Bool.and_eq_true, decide_eq_true_eq] at g3
   refine ⟨⟨?_, by omega⟩, by omega⟩
   unfold blankB
   simp
   omega
  have sp2 : spaceP L (q + 1 + 1) = q + 1 + 1 + 1 := after_word (At.tail hA2) (by rw [hp5]; exact hx.1)
  obtain ⟨w1, w2⟩ := word_read (pass_word hn) hA5
  have hA6 := At.right hA5
  rw [nameR_len] at hA6
  have hb : bareD p = ⟨4, p.name, [], 0, noSide, noSide⟩ := by unfold bareD; rw [h4]; rfl
  have hlen : q + 1 + 1 + 1 + p.name.size + 1 = q + (flatQ [[58, 58], nameR p.name]).length := by simp only [List.cons_append, List.nil_append, flatQ_cons, flatQ_nil, List.length_append, List.length_cons, List.length_nil, nameR_len]; omega
  refine ⟨by rw [h58]; exact ⟨rfl, by decide⟩, q + 1 + 1 + 1 + p.name.size, ?_, by rw [after_word hA6 (by rw [hlen]; exact hsol), hlen]⟩
  ·unfold partR
   rw [if_pos h58]
   unfold passR
   rw [needP_at hA2.pk]
   simp only
   rw [sp2, if_neg (by rw [hp5]; exact hx.2), w2, w1, if_pos hn, hb]
 ·have eq : partQ p = sideQ p.left ++ dirQ p.dir :: sideQ p.right := by unfold partQ; rw [if_neg (by omega), if_neg (by omega), if_neg (by omega)]
  rw [eq] at hA hsol hend ⊢
  obtain ⟨hdir, hl0, hr0⟩ := rule_kinds h2 hp
  have el : (flatQ (sideQ p.left ++ dirQ p.dir :: sideQ p.right)).length = (flatQ (sideQ p.left)).length + (dirQ p.dir).length + 1 + (flatQ (sideQ p.right)).length := by simp only [flatQ_app, flatQ_cons, List.length_append, List.length_cons]; omega
  rw [el, ← Nat.add_assoc, ← Nat.add_assoc, ← Nat.add_assoc] at hend hsol ⊢
  have hA1 : At L q (flatQ (sideQ p.left) ++ (dirQ p.dir ++ 32 :: (flatQ (sideQ p.right) ++ 59 :: X))) := hA.of (by rw [flatQ_app, flatQ_cons]; simp)
  have hA2 := At.right hA1
  have hA3 := At.right hA2
  have hA4 := At.tail hA3
  obtain ⟨hd1, hd2⟩ := dirQ_read hdir hA2
  have hE2 : EndAt L (q + (flatQ (sideQ p.left)).length + (dirQ p.dir).length + 1 + (flatQ (sideQ p.right)).length) := .inl hend
  have hso := side_begin hA1 hd1
  have hso2 := side_begin hA4 hE2
  have r1 := side_read hA1 hd1 (space_solid hso) (side_ok hl0) (side_range hl0).1 (side_range hl0).2
  have r2 := side_read hA4 hE2 (after_word hA3 hso2) (side_ok hr0) (side_range hr0).1 (side_range hr0).2
  have hb : bareD p = ⟨2, noName, [], p.dir, bareS p.left, bareS p.right⟩ := by unfold bareD; rw [h2]; rfl
  have hpp : partP ⟨2, noName, [], p.dir, bareS p.left, bareS p.right⟩ = 0 := by
   have : partP ⟨2, noName, [], p.dir, bareS p.left, bareS p.right⟩ = ruleP p.dir (bareS p.left) (bareS p.right) := rfl
   rw [this, rule_bare]
   unfold partP at hp
   rw [if_neg (by omega), if_neg (by omega), if_neg (by omega), if_pos h2] at hp
   exact hp
  have hrule : ruleR L q = .ok (bareD p, q + (flatQ (sideQ p.left)).length + (dirQ p.dir).length + 1 + (flatQ (sideQ p.right)).length) := by
   unfold ruleR
   rw [r1]
   simp only
   rw [hd2]
   simp only
   rw [r2]
   simp only
   rw [if_neg (by rw [hpp]; decide), hb]
  obtain ⟨f1, f2⟩ := rule_first hrule
  refine ⟨hso, _, ?_, space_solid hsol⟩
  unfold partR
  rw [if_neg f1, if_neg f2]
  exact hrule
theorem file_read {L : List Int} (hL : RunesOk L) : ∀ (l : List PartD) (p q f : Nat) (acc : List PartD), At L p (fileQ l) → p + (fileQ l).length = L.length → spaceP L q = spaceP L p → (∀ a ∈ l, partP a = 0) → acc.length + l.length ≤ 200 → l.length < f → fileF L f q acc = .ok (acc ++ l.map bareD) := by
 intro l
 induction l with
 | nil =>
   intro p q f acc hA he hq _ hn hf
   obtain ⟨f, rfl⟩ : ∃ g, f = g + 1 := ⟨f - 1, by simp at hf; omega⟩
   have hpe : p = L.length := by simpa [fileQ] using he
   have hpk : pk L p = -1 := pk_end (by omega)
   have hsp : spaceP L p = p := spaceP_at (by rw [hpk]; decide) (by rw [hpk]; decide)
   rw [fileF, hq, hsp, hpk, if_pos (by decide)]
   simp
 | cons a l ih =>
   intro p q f acc hA he hq hall hn hf
   obtain ⟨f, rfl⟩ : ∃ g, f = g + 1 := ⟨f - 1, by simp at hf; omega⟩
   have hA1 : At L p (flatQ (partQ a) ++ 59 :: (10 :: fileQ l)) := hA.of (by simp [fileQ, partTQ])
   have hA2 := At.tail (At.right hA1)
   have hA3 := At.tail hA2
   obtain ⟨hsol, j, r1, r2⟩ := part_read (hall a List.mem_cons_self) hA1
   have h59 := (At.right hA1).pk
   have hlt : p < L.length := by have := hA1.le; simp at this; omega
   have hpos : ¬ pk L p < 0 := fun h => by have := pk_neg hL h; omega
   rw [fileF, hq, space_solid hsol, if_neg hpos, if_neg (by simp at hn; omega), r1]
   simp only
   rw [r2, needP_at h59]
   simp only
   have := ih (p + (flatQ (partQ a)).length + 1 + 1) (p + (flatQ (partQ a)).length + 1) f (acc ++ [bareD a]) hA3 (by rw [← he]; simp [fileQ, partTQ]; omega) (space_line hA2) (fun x hx => hall x (List.mem_cons_of_mem _ hx)) (by simp at hn ⊢; omega) (by simp at hf; omega)
   rw [this]
   simp
theorem file_text_read {l : List PartD} (hr : (fileQ l).all rightB = true) (h0 : (fileP l).1 = 0) (hlen : (fileQ l).length ≤ 16000) : rulesP (fileQ l) = (l.map bareD, (0, 0)) := by
 obtain ⟨hn, _, hall⟩ := file_ok h0
 have hL : RunesOk (fileQ l) := fun x hx => right_range (List.all_eq_true.1 hr x hx)
 have h2 : l.length ≤ (fileQ l).length := by
  have key : ∀ l : List PartD, l.length ≤ (fileQ l).length := by
   intro l
   induction l with
   | nil => simp
   | cons a l ih => simp only [fileQ, List.flatMap_cons, partTQ, List.length_append, List.length_cons] at ih ⊢; omega
  exact key l
 have := file_read hL l 0 0 ((fileQ l).length + 1) [] ⟨[], [], by simp, rfl⟩ (by simp) rfl hall (by simpa using hn) (by omega)
 unfold rulesP
 rw [if_neg (by omega), this]
 rfl
end Go.Proofs.YthnhbcohfoodlaaGreatDoor

namespace Go.Proofs.YthnhbcohfoodlaaGreatDoor
open Go.RowKit
def WdRel (w : World) (l : List ItemD) (cursor : Int) (n : Nat) (out i : Value) (wr : World) : Prop :=
 ∃ (k : Nat) (W : List (List UInt8)), k ≤ n ∧ i = .int .i64 k ∧ OwnT wr w.heap.size out W ∧ wordsP l cursor = W ++ wordsGo cursor k (l.drop k) ∧ W.length ≤ 2 * k ∧ Below w.heap.size w wr
end Go.Proofs.YthnhbcohfoodlaaGreatDoor
