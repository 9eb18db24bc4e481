/- FileText + RulesText -/
import Derived.Test.YthnhbcohfoodlaaGreatDoorZt19
import Derived.Test.YthnhbcohfoodlaaGreatDoorZt11
import Derived.Test.YthnhbcohfoodlaaGreatDoorZt16
import Derived.Test.YthnhbcohfoodlaaGreatDoorZt14
namespace Go.Proofs.YthnhbcohfoodlaaGreatDoor
open Go.RowKit
abbrev Word := List UInt8
def setW (l : Spans) : Word := (printP l).1.data.toList
def itemW (a : ItemD) : Word := if a.kind = 1 then quoteP a.rune else if a.kind = 2 then setW a.set else 36 :: a.name.data.toList
def wordsGo (cursor : Int) : Nat → List ItemD → List Word
 | i, [] => if (i : Int) = cursor then [[124]] else []
 | i, a :: r => (if (i : Int) = cursor then [[124]] else []) ++ itemW a :: wordsGo cursor (i + 1) r
def wordsP (l : List ItemD) (cursor : Int) : List Word := wordsGo cursor 0 l
def sideW (s : SideD) : List Word :=
 let a := (if s.start = true then [[94]] else []) ++ wordsP s.before (-1)
 a ++ (if a = [] then [] else [[123]]) ++ wordsP s.source s.cursor ++ (if s.fin = true ∨ 0 < s.after.length then [125] :: wordsP s.after (-1) else []) ++ (if s.fin = true then [[36]] else [])
def dirW (d : Int) : Word := if d = 1 then [62] else if d = 2 then [60] else [60, 62]
def partW (p : PartD) : List Word :=
 if p.kind = 1 then [36 :: p.name.data.toList, [61], setW p.set]
 else if p.kind = 3 then [[58, 58], setW p.set]
 else if p.kind = 4 then [[58, 58], p.name.data.toList]
 else sideW p.left ++ dirW p.dir :: sideW p.right
def partT (p : PartD) : Word := (partW p).flatMap (fun w => w ++ [32]) ++ [59, 10]
def fileT (l : List PartD) : Word := l.flatMap partT
end Go.Proofs.YthnhbcohfoodlaaGreatDoor

namespace Go.Proofs.YthnhbcohfoodlaaGreatDoor
open Go.RowKit
def At (L : List Int) (p : Nat) (X : List Int) : Prop := ∃ pre post, L = pre ++ (X ++ post) ∧ pre.length = p
section
variable {L : List Int} {p : Nat} {X Y : List Int}
theorem At.left (h : At L p (X ++ Y)) : At L p X := by
 obtain ⟨pre, post, e, hl⟩ := h
 exact ⟨pre, Y ++ post, by rw [e, List.append_assoc], hl⟩
theorem At.right (h : At L p (X ++ Y)) : At L (p + X.length) Y := by
 obtain ⟨pre, post, e, hl⟩ := h
 exact ⟨pre ++ X, post, by rw [e]; simp, by rw [List.length_append, hl]⟩
theorem At.tail {x : Int} (h : At L p (x :: X)) : At L (p + 1) X := At.right (X := [x]) h
theorem At.pk {x : Int} (h : At L p (x :: X)) : pk L p = x := by
 obtain ⟨pre, post, e, hl⟩ := h
 subst hl
 rw [e, pk_app0]
 rfl
theorem At.lt {x : Int} (h : At L p (x :: X)) : p < L.length := by
 obtain ⟨pre, post, e, hl⟩ := h
 rw [e, ← hl, List.length_append, List.length_append, List.length_cons]
 omega
theorem At.le (h : At L p X) : p + X.length ≤ L.length := by
 obtain ⟨pre, post, e, hl⟩ := h
 rw [e, ← hl, List.length_append, List.length_append]
 omega
theorem At.of (h : At L p X) (e : X = Y) : At L p Y := e ▸ h
end
theorem space_blank {L : List Int} {p : Nat} {X : List Int} (h : At L p (32 :: X)) : spaceP L p = spaceP L (p + 1) := spaceP_on h.lt (by rw [h.pk]; rfl)
theorem space_line {L : List Int} {p : Nat} {X : List Int} (h : At L p (10 :: X)) : spaceP L p = spaceP L (p + 1) := spaceP_on h.lt (by rw [h.pk]; rfl)
def solidB (x : Int) : Prop := blankB x = false ∧ x ≠ 35
theorem space_solid {L : List Int} {p : Nat} (h : solidB (pk L p)) : spaceP L p = p := spaceP_at h.1 h.2
def nameR (s : ByteArray) : List Int := s.data.toList.map fun b => (b.toNat : Int)
def itemQ (a : ItemD) : List Int := if a.kind = 1 then quoteR a.rune else if a.kind = 2 then printR a.set else 36 :: nameR a.name
def wordsGoQ (cursor : Int) : Nat → List ItemD → List (List Int)
 | i, [] => if (i : Int) = cursor then [[124]] else []
 | i, a :: r => (if (i : Int) = cursor then [[124]] else []) ++ itemQ a :: wordsGoQ cursor (i + 1) r
def wordsQ (l : List ItemD) (cursor : Int) : List (List Int) := wordsGoQ cursor 0 l
def sideQ (s : SideD) : List (List Int) :=
 let a := (if s.start = true then [[94]] else []) ++ wordsQ s.before (-1)
 a ++ (if a = [] then [] else [[123]]) ++ wordsQ s.source s.cursor ++ (if s.fin = true ∨ 0 < s.after.length then [125] :: wordsQ s.after (-1) else []) ++ (if s.fin = true then [[36]] else [])
def dirQ (d : Int) : List Int := if d = 1 then [62] else if d = 2 then [60] else [60, 62]
def partQ (p : PartD) : List (List Int) :=
 if p.kind = 1 then [36 :: nameR p.name, [61], printR p.set]
 else if p.kind = 3 then [[58, 58], printR p.set]
 else if p.kind = 4 then [[58, 58], nameR p.name]
 else sideQ p.left ++ dirQ p.dir :: sideQ p.right
def flatQ (l : List (List Int)) : List Int := l.flatMap fun w => w ++ [32]
def partTQ (p : PartD) : List Int := flatQ (partQ p) ++ [59, 10]
def fileQ (l : List PartD) : List Int := l.flatMap partTQ
theorem flatQ_app (a b : List (List Int)) : flatQ (a ++ b) = flatQ a ++ flatQ b := by simp [flatQ]
theorem flatQ_cons (w : List Int) (a : List (List Int)) : flatQ (w :: a) = w ++ (32 :: flatQ a) := by simp [flatQ]
theorem flatQ_nil : flatQ [] = [] := rfl
theorem flatQ_len (l : List (List Int)) : l.length ≤ (flatQ l).length := by
 induction l with
 | nil => simp [flatQ]
 | cons w l ih =>
   rw [flatQ_cons, List.length_append, List.length_cons, List.length_cons]
   omega
def ldQ (r : Int) : Bool := letB r || digB r
theorem name_ch {b : UInt8} {i : Nat} (h : nameCh i b = true) : ldQ (b.toNat : Int) = true ∧ (i = 0 → letB (b.toNat : Int) = true) ∧ b.toNat < 128 := by
 unfold nameCh at h
 rw [decide_eq_true_iff] at h
 unfold ldQ letB digB
 simp only [Bool.or_eq_true, Bool.and_eq_true, decide_eq_true_eq]
 omega
def WordOk (s : ByteArray) : Prop := 1 ≤ s.size ∧ ∀ (i : Nat) (h : i < s.size), nameCh i s[i] = true
theorem named_word {s : ByteArray} (h : namedP s = true) : WordOk s := by
 unfold namedP at h
 rw [decide_eq_true_iff] at h
 exact ⟨h.1, h.2.2⟩
theorem pass_word {s : ByteArray} (h : passB s = true) : WordOk s := by
 have key : ∀ t : ByteArray, s.toList = t.toList → s = t := by
  intro t e
  have := congrArg (fun l => l.toArray) e
  simp [ByteArray.toList_eq] at this
  exact ByteArray.ext this
 unfold passB isOne at h
 simp only [List.any_cons, List.any_nil, Bool.or_false, Bool.or_eq_true, beq_iff_eq] at h
 rcases h with h | h | h | h
 ·rw [key _ h]; exact named_word (by decide)
 ·rw [key _ h]; exact named_word (by decide)
 ·rw [key _ h]; exact named_word (by decide)
 ·rw [key _ h]; exact named_word (by decide)
theorem name_all {s : ByteArray} (h : WordOk s) : (∀ d ∈ nameR s, ldQ d = true) ∧ (∀ b ∈ s.data.toList, b.toNat < 128) ∧ ∃ x t, nameR s = x :: t ∧ letB x = true := by
 have hg : ∀ b ∈ s.data.toList, ∃ i, nameCh i b = true := by
  intro b hb
  obtain ⟨i, hi, e⟩ := List.mem_iff_getElem.1 hb
  have hi2 : i < s.size := by simpa using hi
  refine ⟨i, ?_⟩
  have := h.2 i hi2
  have e2 : s[i] = b := by rw [← e]; rfl
  rwa [e2] at this
 refine ⟨?_, fun b hb => let ⟨i, hi⟩ := hg b hb; (name_ch hi).2.2, ?_⟩
 ·intro d hd
  obtain ⟨b, hb, rfl⟩ := List.mem_map.1 hd
  obtain ⟨i, hi⟩ := hg b hb
  exact (name_ch hi).1
 ·unfold nameR
  cases hl : s.data.toList with
  | nil =>
    have h1 := h.1
    have h2 : s.size = s.data.toList.length := by rw [Array.length_toList]; rfl
    rw [hl, List.length_nil] at h2
    omega
  | cons b t =>
    refine ⟨_, _, rfl, ?_⟩
    have h0 : 0 < s.size := h.1
    have := h.2 0 h0
    have e2 : s[0] = b := by
     have : s.data.toList[0]'(by rw [hl]; simp) = b := by simp [hl]
     rw [← this]; rfl
    rw [e2] at this
    exact (name_ch this).2.1 rfl
theorem nameR_len (s : ByteArray) : (nameR s).length = s.size := by simp [nameR]
theorem at_run {L : List Int} {p : Nat} {h X : List Int} {x : Int} {q : Int → Bool} (hA : At L p (h ++ x :: X)) (h1 : ∀ d ∈ h, q d = true) (h2 : q x = false) : runFrom q L p = p + h.length := by
 obtain ⟨pre, post, e, hl⟩ := hA
 unfold runFrom
 rw [e, ← hl, List.drop_left, List.append_assoc, List.cons_append, takeWhile_stop h x _ h1 h2]
theorem at_text {L : List Int} {p : Nat} {X : List Int} (hA : At L p X) : textAt L p (p + X.length) = X := by
 obtain ⟨pre, post, e, hl⟩ := hA
 unfold textAt
 rw [e, ← hl, List.drop_left, Nat.add_sub_cancel_left, List.take_left]
theorem word_read {L : List Int} {p : Nat} {s : ByteArray} {X : List Int} (hs : WordOk s) (hA : At L p (nameR s ++ 32 :: X)) : wordEnd L p = p + s.size ∧ wordT L p = s := by
 obtain ⟨g1, g2, x, t, e, g3⟩ := name_all hs
 have he : wordEnd L p = p + s.size := by
  unfold wordEnd
  have hp : pk L p = x := by rw [e] at hA; exact hA.pk
  rw [hp, if_pos g3, ← nameR_len s]
  exact at_run hA g1 (by decide)
 refine ⟨he, ?_⟩
 unfold wordT
 rw [he, ← nameR_len s, at_text hA.left]
 apply ByteArray.ext
 apply Array.toList_inj.1
 have ha : asciiL (nameR s) := by
  intro d hd
  obtain ⟨b, hb, rfl⟩ := List.mem_map.1 hd
  have := g2 b hb
  omega
 rw [runesBytes_ascii ha]
 unfold rowB nameR
 rw [List.map_map]
 have : ((fun x : Int => UInt8.ofNat x.toNat) ∘ fun b : UInt8 => (b.toNat : Int)) = id := by
  funext b
  simp
 rw [this, List.map_id]
theorem name_read {L : List Int} {p : Nat} {s : ByteArray} {X : List Int} (hs : namedP s = true) (hA : At L p (nameR s ++ 32 :: X)) : nameP L p = .ok (s, p + s.size) := by
 obtain ⟨h1, h2⟩ := word_read (named_word hs) hA
 unfold nameP
 rw [h2, h1, if_pos hs]
def wordHead (x : Int) : Prop := headOk x ∨ x = 91 ∨ x = 36 ∨ x = 124
theorem head_not {x : Int} (h : headOk x) : solidB x ∧ x ≠ 124 ∧ x ≠ 91 ∧ x ≠ 36 ∧ x ≠ 39 ∧ x ≠ 61 ∧ x ≠ 94 ∧ x ≠ 123 ∧ x ≠ 125 ∧ x ≠ 58 ∧ x ≠ 60 ∧ x ≠ 62 ∧ x ≠ 59 := by
 rcases h with h | rfl
 ·have hsp : ∀ c ∈ specialL, x ≠ c := by
   intro c hc e
   subst e
   unfold plainB at h
   rw [List.contains_iff_mem.2 hc] at h
   simp at h
  have hb : blankB x = false := by
   unfold plainB at h
   cases hb : blankB x
   ·rfl
   ·rw [hb] at h; simp at h
  refine ⟨⟨hb, hsp 35 (by decide)⟩, hsp _ (by decide), hsp _ (by decide), hsp _ (by decide), hsp _ (by decide), hsp _ (by decide), hsp _ (by decide), hsp _ (by decide), hsp _ (by decide), hsp _ (by decide), hsp _ (by decide), hsp _ (by decide), hsp _ (by decide)⟩
 ·exact ⟨⟨rfl, by decide⟩, by decide, by decide, by decide, by decide, by decide, by decide, by decide, by decide, by decide, by decide, by decide, by decide⟩
theorem wordHead_solid {x : Int} (h : wordHead x) : solidB x ∧ x ≠ 61 ∧ x ≠ 94 ∧ x ≠ 123 ∧ x ≠ 125 ∧ x ≠ 58 := by
 rcases h with h | rfl | rfl | rfl
 ·have := head_not h
  exact ⟨this.1, this.2.2.2.2.2.1, this.2.2.2.2.2.2.1, this.2.2.2.2.2.2.2.1, this.2.2.2.2.2.2.2.2.1, this.2.2.2.2.2.2.2.2.2.1⟩
 ·exact ⟨⟨rfl, by decide⟩, by decide, by decide, by decide, by decide, by decide⟩
 ·exact ⟨⟨rfl, by decide⟩, by decide, by decide, by decide, by decide, by decide⟩
 ·exact ⟨⟨rfl, by decide⟩, by decide, by decide, by decide, by decide, by decide⟩
theorem itemQ_head {a : ItemD} : ∃ x t, itemQ a = x :: t ∧ (headOk x ∨ x = 91 ∨ x = 36) := by
 unfold itemQ
 split
 ·obtain ⟨h, t, e, hh⟩ := quoteR_head a.rune
  exact ⟨h, t, e, .inl hh⟩
 ·split
  ·exact ⟨91, _, rfl, .inr (.inl rfl)⟩
  ·exact ⟨36, _, rfl, .inr (.inr rfl)⟩
theorem item_read {L : List Int} {p : Nat} {a : ItemD} {X : List Int} (ha : itemP a = 0) (hA : At L p (itemQ a ++ 32 :: X)) (out : List ItemD) (cur : Int) : elemP L p out cur = .ok (some ((out ++ [bareI a], cur), p + (itemQ a).length)) := by
 have hA0 := hA
 obtain ⟨pre, post, e, hl⟩ := hA0
 rcases item_kinds ha with ⟨h1, hr⟩ | ⟨h2, hs⟩ | ⟨h3, hn⟩
 ·have hq : itemQ a = quoteR a.rune := by unfold itemQ; rw [if_pos h1]
  rw [hq] at e hA ⊢
  have hrange := right_range hr
  obtain ⟨h, t, eh, hh⟩ := quoteR_head a.rune
  have hp : pk L p = h := by rw [eh] at hA; exact hA.pk
  obtain ⟨_, n1, n2, n3, n4, _⟩ := head_not hh
  have hc := char_read pre (32 :: X ++ post) a.rune hrange.1 hrange.2
  rw [show pre ++ (quoteR a.rune ++ (32 :: X ++ post)) = L by rw [e]; simp, hl] at hc
  have hb : bareI a = runeI a.rune := by unfold bareI runeI noName; rw [h1]; rfl
  unfold elemP
  rw [hp, if_neg n1, if_neg n2, if_neg (fun x => n3 x.1), if_neg n4, if_pos (by rcases hh with hh | hh; exact .inr hh; exact .inl hh), hc]
  simp only
  rw [if_pos hr, hb]
 ·have hq : itemQ a = printR a.set := by unfold itemQ; rw [h2]; rfl
  rw [hq] at e hA ⊢
  have hp : pk L p = 91 := hA.pk
  have hc := set_read pre (32 :: X ++ post) a.set 19 (right_set hs)
  rw [show pre ++ (printR a.set ++ (32 :: X ++ post)) = L by rw [e]; simp, hl] at hc
  have hb : bareI a = ⟨2, 0, a.set, noName⟩ := by unfold bareI noName; rw [h2]; rfl
  unfold elemP
  rw [hp, if_neg (by decide), if_pos rfl, hc, hb]
 ·have hq : itemQ a = 36 :: nameR a.name := by unfold itemQ; rw [h3]; rfl
  rw [hq] at e hA ⊢
  have hp : pk L p = 36 := hA.pk
  have hA1 : At L (p + 1) (nameR a.name ++ 32 :: X) := At.tail hA
  have hc := name_read hn hA1
  obtain ⟨_, _, x, t, ex, g3⟩ := name_all (named_word hn)
  have hp1 : pk L (p + 1) = x := by rw [ex] at hA1; exact hA1.pk
  have hb : bareI a = ⟨3, 0, [], a.name⟩ := by unfold bareI; rw [h3]; rfl
  unfold elemP
  rw [hp, if_neg (by decide), if_neg (by decide), hp1, if_pos ⟨rfl, g3⟩, hc, hb]
  simp only
  rw [List.length_cons, nameR_len, show p + 1 + a.name.size = p + (a.name.size + 1) by omega]
def StopAt (L : List Int) (p : Nat) : Prop := solidB (pk L p) ∧ ∀ out cur, elemP L p out cur = .ok none
theorem stop_of {L : List Int} {p : Nat} (h : pk L p = 123 ∨ pk L p = 125 ∨ pk L p = 60 ∨ pk L p = 62 ∨ pk L p = 59 ∨ (pk L p = 36 ∧ pk L (p + 1) = 32)) : StopAt L p := by
 have key : ∀ x : Int, pk L p = x → solidB x → x ≠ 124 → x ≠ 91 → (x ≠ 36 ∨ letB (pk L (p + 1)) = false) → x ≠ 39 → x ≠ 92 → plainB x = false → StopAt L p := by
  intro x hx h1 h2 h3 h4 h5 h6 h7
  refine ⟨by rw [hx]; exact h1, fun out cur => ?_⟩
  unfold elemP
  rw [hx, if_neg h2, if_neg h3, if_neg, if_neg h5, if_neg]
  ·rintro (h | h)
   ·exact h6 h
   ·rw [h7] at h; exact absurd h (by decide)
  ·rintro ⟨g1, g2⟩
   rcases h4 with h4 | h4
   ·exact h4 g1
   ·rw [h4] at g2; exact absurd g2 (by decide)
 rcases h with h | h | h | h | h | ⟨h, h2⟩
 ·exact key _ h ⟨rfl, by decide⟩ (by decide) (by decide) (.inl (by decide)) (by decide) (by decide) (by decide)
 ·exact key _ h ⟨rfl, by decide⟩ (by decide) (by decide) (.inl (by decide)) (by decide) (by decide) (by decide)
 ·exact key _ h ⟨rfl, by decide⟩ (by decide) (by decide) (.inl (by decide)) (by decide) (by decide) (by decide)
 ·exact key _ h ⟨rfl, by decide⟩ (by decide) (by decide) (.inl (by decide)) (by decide) (by decide) (by decide)
 ·exact key _ h ⟨rfl, by decide⟩ (by decide) (by decide) (.inl (by decide)) (by decide) (by decide) (by decide)
 ·exact key _ h ⟨rfl, by decide⟩ (by decide) (by decide) (.inr (by rw [h2]; decide)) (by decide) (by decide) (by decide)
theorem items_stop {L : List Int} {f q p : Nat} {out : List ItemD} {cur : Int} (hq : spaceP L q = p) (hs : StopAt L p) : itemsF L (f + 1) q out cur = .ok ((out, cur), p) := by rw [itemsF, hq, hs.2]
theorem after_word {L : List Int} {q : Nat} {X : List Int} (hA : At L q (32 :: X)) (hs : solidB (pk L (q + 1))) : spaceP L q = q + 1 := by rw [space_blank hA, space_solid hs]
theorem wordsGoQ_head (cursor : Int) (l : List ItemD) (i : Nat) (L : List Int) (p : Nat) (X : List Int) (hA : At L p (flatQ (wordsGoQ cursor i l) ++ X)) (hs : solidB (pk L (p + (flatQ (wordsGoQ cursor i l)).length))) : solidB (pk L p) := by
 have bar : ∀ Y, At L p (124 :: Y) → solidB (pk L p) := fun Y h => by rw [h.pk]; exact ⟨rfl, by decide⟩
 cases l with
 | nil =>
   unfold wordsGoQ at hA hs
   split at hA
   ·exact bar _ hA
   ·rename_i h
    rw [if_neg h] at hs
    exact hs
 | cons a l =>
   unfold wordsGoQ at hA
   split at hA
   ·exact bar _ hA
   ·obtain ⟨x, t, e, hh⟩ := itemQ_head (a := a)
    rw [List.nil_append, flatQ_cons, e] at hA
    rw [At.pk hA]
    exact (wordHead_solid (by rcases hh with h | h | h; exact .inl h; exact .inr (.inl h); exact .inr (.inr (.inl h)))).1
theorem words_read (cursor : Int) : ∀ (l : List ItemD) (L : List Int) (i f q p : Nat) (out : List ItemD) (cur : Int) (X : List Int), At L p (flatQ (wordsGoQ cursor i l) ++ X) → StopAt L (p + (flatQ (wordsGoQ cursor i l)).length) → spaceP L q = p → out.length = i →
 (∀ a ∈ l, itemP a = 0) → i + l.length ≤ 20 → -1 ≤ cursor → cursor ≤ ((i + l.length : Nat) : Int) → cur = (if cursor < (i : Int) then cursor else -1) → (wordsGoQ cursor i l).length < f →
 itemsF L f q out cur = .ok ((out ++ l.map bareI, cursor), p + (flatQ (wordsGoQ cursor i l)).length) := by
 have bar : ∀ (L : List Int) (f q p i : Nat) (out : List ItemD) (cur : Int) (X : List Int), At L p (124 :: 32 :: X) → spaceP L q = p → out.length = i → i ≤ 20 → cur < 0 → itemsF L (f + 1) q out cur = itemsF L f (p + 1) out (i : Int) := by
  intro L f q p i out cur X hA hq ho hi hc
  rw [itemsF, hq]
  unfold elemP
  rw [if_pos hA.pk, if_neg (by omega)]
  simp only
  rw [if_neg (by omega), ho]
 intro l
 induction l with
 | nil =>
   intro L i f q p out cur X hA hs hq ho hl hi h1 h2 hcur hf
   simp only [List.length_nil, Nat.add_zero] at h2 hi
   unfold wordsGoQ at hA hs hf ⊢
   by_cases hic : (i : Int) = cursor
   ·rw [if_pos hic] at hA hs hf ⊢
    have hA' : At L p (124 :: 32 :: X) := hA
    obtain ⟨f, rfl⟩ : ∃ g, f = g + 2 := ⟨f - 2, by simp at hf; omega⟩
    have hs' : StopAt L (p + 2) := hs
    rw [bar L (f + 1) q p i out cur X hA' hq ho hi (by rw [hcur, if_neg (by omega)]; omega), items_stop (after_word (At.tail hA') hs'.1) hs', hic]
    simp [flatQ]
   ·rw [if_neg hic] at hA hs hf ⊢
    obtain ⟨f, rfl⟩ : ∃ g, f = g + 1 := ⟨f - 1, by simp at hf; omega⟩
    rw [items_stop hq hs, hcur, if_pos (by omega)]
    simp [flatQ]
 | cons a l ih =>
   intro L i f q p out cur X hA hs hq ho hl hi h1 h2 hcur hf
   simp only [List.length_cons] at h2 hi
   have ha := hl a List.mem_cons_self
   have item : ∀ (f q p : Nat) (cur : Int), At L p (flatQ (itemQ a :: wordsGoQ cursor (i + 1) l) ++ X) → StopAt L (p + (flatQ (itemQ a :: wordsGoQ cursor (i + 1) l)).length) → spaceP L q = p → cur = (if cursor < ((i + 1 : Nat) : Int) then cursor else -1) → (itemQ a :: wordsGoQ cursor (i + 1) l).length < f →
    itemsF L f q out cur = .ok ((out ++ (a :: l).map bareI, cursor), p + (flatQ (itemQ a :: wordsGoQ cursor (i + 1) l)).length) := by
    intro f q p cur hA hs hq hcur hf
    obtain ⟨f, rfl⟩ : ∃ g, f = g + 1 := ⟨f - 1, by omega⟩
    have hA1 : At L p (itemQ a ++ 32 :: (flatQ (wordsGoQ cursor (i + 1) l) ++ X)) := hA.of (by rw [flatQ_cons]; simp)
    have hA2 := At.right hA1
    have hA3 := At.tail hA2
    have el : p + (flatQ (itemQ a :: wordsGoQ cursor (i + 1) l)).length = p + (itemQ a).length + 1 + (flatQ (wordsGoQ cursor (i + 1) l)).length := by rw [flatQ_cons, List.length_append, List.length_cons]; omega
    rw [el] at hs ⊢
    have hso := wordsGoQ_head cursor l (i + 1) L _ X hA3 hs.1
    rw [itemsF, hq, item_read ha hA1]
    simp only
    rw [if_neg (by rw [List.length_append, ho]; simp; omega)]
    rw [ih L (i + 1) f (p + (itemQ a).length) (p + (itemQ a).length + 1) (out ++ [bareI a]) cur X hA3 hs (after_word hA2 hso) (by rw [List.length_append, ho]; rfl) (fun x hx => hl x (List.mem_cons_of_mem _ hx)) (by omega) h1 (by rw [show i + 1 + l.length = i + (l.length + 1) by omega]; exact h2) hcur (by simp at hf; omega)]
    simp
   unfold wordsGoQ at hA hs hf ⊢
   by_cases hic : (i : Int) = cursor
   ·rw [if_pos hic, List.singleton_append] at hA hs hf ⊢
    have el : p + (flatQ ([124] :: itemQ a :: wordsGoQ cursor (i + 1) l)).length = p + 2 + (flatQ (itemQ a :: wordsGoQ cursor (i + 1) l)).length := by rw [flatQ_cons, List.length_append, List.length_cons, List.length_cons]; simp only [List.length_nil]; omega
    have hA' : At L p (124 :: 32 :: (flatQ (itemQ a :: wordsGoQ cursor (i + 1) l) ++ X)) := hA.of (by rw [flatQ_cons [124]]; simp)
    have hA2 : At L (p + 2) (flatQ (itemQ a :: wordsGoQ cursor (i + 1) l) ++ X) := At.tail (At.tail hA')
    rw [el] at hs ⊢
    obtain ⟨f, rfl⟩ : ∃ g, f = g + 1 := ⟨f - 1, by simp at hf; omega⟩
    have hso : solidB (pk L (p + 2)) := by
     obtain ⟨x, t, e, hh⟩ := itemQ_head (a := a)
     have hA3 := hA2
     rw [flatQ_cons, e] at hA3
     rw [At.pk hA3]
     exact (wordHead_solid (by rcases hh with h | h | h; exact .inl h; exact .inr (.inl h); exact .inr (.inr (.inl h)))).1
    rw [bar L f q p i out cur _ hA' hq ho (by omega) (by rw [hcur, if_neg (by omega)]; omega)]
    exact item f (p + 1) (p + 2) i hA2 hs (after_word (At.tail hA') hso) (by rw [if_pos (by omega), hic]) (by simp at hf ⊢; omega)
   ·rw [if_neg hic, List.nil_append] at hA hs hf ⊢
    refine item f q p cur hA hs hq ?_ hf
    rw [hcur]
    by_cases hlt : cursor < (i : Int)
    ·rw [if_pos hlt, if_pos (by omega)]
    ·rw [if_neg hlt, if_neg (by omega)]
theorem itemsR_read {L : List Int} {q p : Nat} {l : List ItemD} {cursor : Int} {X : List Int} (hA : At L p (flatQ (wordsQ l cursor) ++ X)) (hs : StopAt L (p + (flatQ (wordsQ l cursor)).length)) (hq : spaceP L q = p) (hl : itemsP l = 0) (h1 : -1 ≤ cursor) (h2 : cursor ≤ l.length) :
 itemsR L q = .ok ((l.map bareI, cursor), p + (flatQ (wordsQ l cursor)).length) := by
 obtain ⟨h20, hall⟩ := items_ok hl
 have h3 := hA.le
 have h4 := flatQ_len (wordsQ l cursor)
 rw [List.length_append] at h3
 have := words_read cursor l L 0 (L.length + 1) q p [] (-1) X hA hs hq rfl hall (by omega) h1 (by rw [Nat.zero_add]; exact h2) (by split <;> omega) (by unfold wordsQ at h3 h4; omega)
 exact this
end Go.Proofs.YthnhbcohfoodlaaGreatDoor
