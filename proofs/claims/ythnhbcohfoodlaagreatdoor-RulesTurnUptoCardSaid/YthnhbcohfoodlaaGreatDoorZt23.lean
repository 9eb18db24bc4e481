/- JoinLaw + WordsLen -/
import Derived.Test.YthnhbcohfoodlaaGreatDoorZt22
import Derived.Lib.TrimByte
namespace Go.Proofs.YthnhbcohfoodlaaGreatDoor
open Go.RowKit
abbrev J (l : List Word) : List UInt8 := Lib.join l [32]
theorem joinTail_append (a b : List Word) : Lib.joinTail [32] (a ++ b) = Lib.joinTail [32] a ++ Lib.joinTail [32] b := by simp [Lib.joinTail]
theorem joinTail_J {b : List Word} (hb : b ≠ []) : Lib.joinTail [32] b = 32 :: J b := by
 cases b with
 | nil => exact absurd rfl hb
 | cons y b => simp [Lib.joinTail, J, Lib.join_cons]
theorem J_append {a b : List Word} (ha : a ≠ []) (hb : b ≠ []) : J (a ++ b) = J a ++ 32 :: J b := by
 cases a with
 | nil => exact absurd rfl ha
 | cons x a => rw [List.cons_append, J, Lib.join_cons, joinTail_append, joinTail_J hb, show J (x :: a) = x ++ Lib.joinTail [32] a from Lib.join_cons _ _ _, List.append_assoc]
def Solid (w : Word) : Prop := w ≠ [] ∧ 32 ∉ w
theorem J_ne {l : List Word} (h : ∀ x ∈ l, Solid x) (hl : l ≠ []) : J l ≠ [] := by
 cases l with
 | nil => exact absurd rfl hl
 | cons x l =>
   have := (h x (by simp)).1
   rw [J, Lib.join_cons]
   intro e
   rw [List.append_eq_nil_iff] at e
   exact this e.1
def Sim (a b : List Word) : Prop := J a = J b ∧ (a = [] ↔ b = [])
theorem Sim.refl (a : List Word) : Sim a a := ⟨rfl, Iff.rfl⟩
theorem Sim.append {a b : List Word} (h : Sim a b) (c : List Word) : Sim (a ++ c) (b ++ c) := by
 by_cases hc : c = []
 ·subst hc; simpa using h
 by_cases ha : a = []
 ·have hb := h.2.1 ha
  subst ha hb
  exact Sim.refl _
 have hb : b ≠ [] := fun e => ha (h.2.2 e)
 refine ⟨?_, by simp [hc]⟩
 rw [J_append ha hc, J_append hb hc, h.1]
theorem Sim.one {a b : List Word} (h : Sim a b) {x : Word} (hx : x ≠ []) : Sim (putW a x) (b ++ [x]) := by
 unfold putW
 rw [if_neg hx]
 exact h.append _
theorem Sim.more {a b : List Word} (h : Sim a b) {X : List Word} (hX : ∀ x ∈ X, Solid x) : Sim (putW a (J X)) (b ++ X) := by
 unfold putW
 by_cases hx : X = []
 ·subst hx
  rw [if_pos (by simp [J, Lib.join_nil])]
  simpa using h
 ·have hj := J_ne hX hx
  rw [if_neg hj]
  have h2 := h.append [J X]
  refine ⟨?_, by simp [hx]⟩
  rw [h2.1]
  by_cases hb : b = []
  ·subst hb
   simp [J, Lib.join_one]
  ·rw [J_append hb hx, J_append hb (by simp)]
   simp [J, Lib.join_one]
theorem solid_one (c : UInt8) (h : c ≠ 32) : Solid [c] := ⟨by simp, by simpa using Ne.symm h⟩
theorem solid_append {a b : Word} (ha : Solid a) (hb : Solid b) : Solid (a ++ b) := ⟨by simp [ha.1], by simp [ha.2, hb.2]⟩
theorem hexd_solid : ∀ i : Fin 16, hexd i.val ≠ 32 := by decide
theorem solid_hex (d : Nat) : ∀ n, n < 16 ^ (d + 1) → Solid (hexL n) := by
 induction d with
 | zero =>
   intro n hn
   rw [hexL_small (by simpa using hn)]
   exact solid_one _ (hexd_solid ⟨n, by simpa using hn⟩)
 | succ d ih =>
   intro n hn
   by_cases h : n < 16
   ·rw [hexL_small h]
    exact solid_one _ (hexd_solid ⟨n, h⟩)
   ·rw [hexL_big (by omega)]
    refine solid_append (ih _ ?_) (solid_one _ (hexd_solid ⟨n % 16, Nat.mod_lt _ (by decide)⟩))
    rw [Nat.div_lt_iff_lt_mul (by decide)]
    rw [Nat.pow_succ] at hn
    exact hn
theorem byte_ne {x : Int} (h : (128 ≤ x ∧ x ≤ 255) ∨ (48 ≤ x ∧ x ≤ 127)) : x.toNat.toUInt8 ≠ 32 := by
 intro e
 have := congrArg UInt8.toNat e
 simp at this
 omega
theorem solid_enc {r : Int} (h : alnumB r = true ∨ (126 < r ∧ rightB r = true)) : Solid (Lib.encodeRune r) := by
 have key : ∀ l : List Int, l ≠ [] → (∀ x ∈ l, (128 ≤ x ∧ x ≤ 255) ∨ (48 ≤ x ∧ x ≤ 127)) → Solid (l.map fun x => x.toNat.toUInt8) := by
  intro l hl hx
  refine ⟨by simpa using hl, fun hm => ?_⟩
  obtain ⟨x, hx1, hx2⟩ := List.mem_map.1 hm
  exact byte_ne (hx x hx1) hx2
 unfold alnumB rightB at h
 rw [decide_eq_true_iff, decide_eq_true_iff] at h
 unfold Lib.encodeRune
 by_cases h1 : r ≤ 127
 ·rw [Lib.encodeRuneZ_one (by omega) h1]
  exact key _ (by simp) (by simp; omega)
 by_cases h2 : r ≤ 2047
 ·rw [Lib.encodeRuneZ_two (by omega) h2]
  exact key _ (by simp) (by simp; omega)
 by_cases h3 : r ≤ 65535
 ·rw [Lib.encodeRuneZ_three (by omega)]
  exact key _ (by simp) (by simp; omega)
 ·rw [Lib.encodeRuneZ_four (by omega) (by omega)]
  exact key _ (by simp) (by simp; omega)
theorem solid_quote {r : Int} (h0 : 0 ≤ r) (h1 : r ≤ 1114111) : Solid (quoteP r) := by
 unfold quoteP
 split
 ·next h => exact solid_enc h
 ·refine solid_append (solid_append ⟨by simp, by decide⟩ (solid_hex 5 _ ?_)) (solid_one _ (by decide))
  omega
theorem solid_set {l : Spans} (h : wrongP l = 0) : Solid (setW l) := by
 obtain ⟨_, h2⟩ := wrongP_ok h
 have hp : 32 ∉ printL l := by
  unfold printL
  intro hm
  obtain ⟨k, hk, hm⟩ := List.mem_flatMap.1 hm
  obtain ⟨a1, a2, a3⟩ := h2 k hk
  unfold spanW at hm
  rcases List.mem_append.1 hm with hm | hm
  ·exact (solid_quote a1 (by omega)).2 hm
  ·split at hm
   ·rcases List.mem_cons.1 hm with hm | hm
    ·cases hm
    ·exact (solid_quote (by omega) a3).2 hm
   ·cases hm
 unfold setW printP
 rw [if_pos h]
 refine ⟨by simp, ?_⟩
 simp [hp]
theorem solid_name {s : ByteArray} (h : namedP s = true) : 32 ∉ s.data.toList := by
 unfold namedP at h
 rw [decide_eq_true_iff] at h
 intro hm
 obtain ⟨i, hi, he⟩ := List.mem_iff_getElem.1 hm
 have hi2 : i < s.size := hi
 have := h.2.2 i hi2
 have e2 : s[i] = 32 := by rw [← he]; rfl
 rw [e2] at this
 unfold nameCh at this
 rw [decide_eq_true_iff] at this
 have h32 : (32 : UInt8).toNat = 32 := rfl
 rw [h32] at this
 omega
theorem solid_item {a : ItemD} (h : itemP a = 0) : Solid (itemW a) := by
 unfold itemW
 rcases item_kinds h with ⟨h1, h2⟩ | ⟨h1, h2⟩ | ⟨h1, h2⟩
 ·rw [if_pos h1]
  have := right_range h2
  exact solid_quote this.1 this.2
 ·rw [h1, if_neg (by decide), if_pos rfl]
  exact solid_set h2
 ·rw [h1, if_neg (by decide), if_neg (by decide)]
  refine ⟨by simp, ?_⟩
  have := solid_name h2
  simp [this]
theorem solid_words {cursor : Int} {l : List ItemD} : ∀ i, (∀ a ∈ l, itemP a = 0) → ∀ x ∈ wordsGo cursor i l, Solid x := by
 induction l with
 | nil =>
   intro i _ x hx
   unfold wordsGo at hx
   split at hx
   ·simp at hx
    subst hx
    exact ⟨by simp, by decide⟩
   ·cases hx
 | cons a l ih =>
   intro i h x hx
   unfold wordsGo at hx
   rcases List.mem_append.1 hx with hx | hx
   ·split at hx
    ·simp at hx
     subst hx
     exact ⟨by simp, by decide⟩
    ·cases hx
   ·rcases List.mem_cons.1 hx with rfl | hx
    ·exact solid_item (h a (by simp))
    ·exact ih (i + 1) (fun y hy => h y (by simp [hy])) x hx
theorem solid_wordsP {cursor : Int} {l : List ItemD} (h : itemsP l = 0) : ∀ x ∈ wordsP l cursor, Solid x := solid_words 0 (items_ok h).2
theorem solid_side {s : SideD} (h1 : itemsP s.before = 0) (h2 : itemsP s.source = 0) (h3 : itemsP s.after = 0) : ∀ x ∈ sideW s, Solid x := by
 intro x hx
 have one : ∀ c : UInt8, c ≠ 32 → x ∈ [[c]] → Solid x := by
  intro c hc hm
  simp at hm
  subst hm
  exact solid_one c hc
 have opt : ∀ {p : Prop} [Decidable p] (c : UInt8), c ≠ 32 → x ∈ (if p then [[c]] else []) → Solid x := by
  intro p _ c hc hm
  split at hm
  ·exact one c hc hm
  ·cases hm
 have opt2 : ∀ {p : Prop} [Decidable p] (c : UInt8), c ≠ 32 → x ∈ (if p then [] else [[c]]) → Solid x := by
  intro p _ c hc hm
  split at hm
  ·cases hm
  ·exact one c hc hm
 unfold sideW at hx
 dsimp only at hx
 rcases List.mem_append.1 hx with hx | hx
 ·rcases List.mem_append.1 hx with hx | hx
  ·rcases List.mem_append.1 hx with hx | hx
   ·rcases List.mem_append.1 hx with hx | hx
    ·rcases List.mem_append.1 hx with hx | hx
     ·exact opt 94 (by decide) hx
     ·exact solid_wordsP h1 x hx
    ·exact opt2 123 (by decide) hx
   ·exact solid_wordsP h2 x hx
  ·split at hx
   ·rcases List.mem_cons.1 hx with rfl | hx
    ·exact solid_one _ (by decide)
    ·exact solid_wordsP h3 x hx
   ·cases hx
 ·exact opt 36 (by decide) hx
theorem trim_of {t : List UInt8} (a b : List UInt8) (ha : ∀ x ∈ a, x = 32) (hb : ∀ x ∈ b, x = 32) (h1 : ∀ x, t.head? = some x → x ≠ 32) (h2 : ∀ x, t.getLast? = some x → x ≠ 32) (ht : t ≠ []) : Lib.trimB (a ++ t ++ b) 32 = t := by
 have hr : Lib.trimRightB (a ++ t ++ b) 32 = a ++ t := by
  rw [Lib.trimRightB_take (a ++ t ++ b) 32 (a ++ t).length (by simp) (fun j x hj hx => ?_) (fun x h0 hx => ?_)]
  ·exact List.take_left
  ·rw [List.getElem?_append_right hj] at hx
   exact hb x (List.mem_of_getElem? hx)
  ·rw [List.getElem?_append_left (by omega), List.getElem?_append_right (by rw [List.length_append]; have := List.length_pos_iff.2 ht; omega)] at hx
   refine h2 x ?_
   rw [List.getLast?_eq_getElem?, ← hx]
   congr 1
   rw [List.length_append]
   omega
 unfold Lib.trimB
 rw [hr, Lib.trimLeftB_drop (a ++ t) 32 a.length (by simp) (fun j x hj hx => ?_) (fun x hx => ?_)]
 ·exact List.drop_left
 ·rw [List.getElem?_append_left hj] at hx
  exact ha x (List.mem_of_getElem? hx)
 ·rw [List.getElem?_append_right (Nat.le_refl _), Nat.sub_self, ← List.head?_eq_getElem?] at hx
  exact h1 x hx
theorem J_head {x : Word} {l : List Word} (h : Solid x) : ∀ c, (J (x :: l)).head? = some c → c ≠ 32 := by
 intro c hc he
 subst he
 rw [J, Lib.join_cons] at hc
 cases x with
 | nil => exact h.1 rfl
 | cons y x =>
   simp at hc
   subst hc
   exact h.2 (by simp)
theorem J_last {x : Word} {l : List Word} (h : Solid x) : ∀ c, (J (l ++ [x])).getLast? = some c → c ≠ 32 := by
 intro c hc he
 subst he
 have hx : x.getLast? = some 32 := by
  by_cases hl : l = []
  ·subst hl
   simpa [J, Lib.join_one] using hc
  ·rw [J_append hl (by simp)] at hc
   have e : J [x] = x := by simp [J, Lib.join_one]
   rw [e, List.getLast?_append, List.getLast?_cons] at hc
   cases hx : x.getLast? with
   | none => rw [List.getLast?_eq_none_iff] at hx; exact absurd hx h.1
   | some y => rw [hx] at hc; simpa using hc
 exact h.2 (List.mem_of_getLast? hx)
theorem trim_rule {A B : List Word} {d : Word} (hA : ∀ x ∈ A, Solid x) (hB : ∀ x ∈ B, Solid x) (hd : Solid d) : Lib.trimB (J [J A, d, J B]) 32 = J (A ++ d :: B) := by
 have e3 : J [J A, d, J B] = J A ++ 32 :: (d ++ 32 :: J B) := by simp [J, Lib.join_cons, Lib.joinTail]
 have edB : J (d :: B) = d ++ (if B = [] then [] else 32 :: J B) := by
  rw [J, Lib.join_cons]
  by_cases hb : B = []
  ·subst hb; simp [Lib.joinTail]
  ·rw [if_neg hb, joinTail_J hb]
 have eAll : J (A ++ d :: B) = (if A = [] then [] else J A ++ [32]) ++ J (d :: B) := by
  by_cases ha : A = []
  ·subst ha; simp
  ·rw [if_neg ha, J_append ha (by simp)]; simp
 have e : J [J A, d, J B] = (if A = [] then [32] else []) ++ J (A ++ d :: B) ++ (if B = [] then [32] else []) := by
  rw [e3, eAll, edB]
  by_cases ha : A = [] <;> by_cases hb : B = [] <;> simp [ha, hb, J, Lib.join_nil]
 rw [e]
 refine trim_of _ _ (by intro x hx; split at hx <;> simp at hx; exact hx) (by intro x hx; split at hx <;> simp at hx; exact hx) ?_ ?_ ?_
 ·cases A with
  | nil => exact J_head hd
  | cons x A => exact J_head (hA x (by simp))
 ·rcases List.eq_nil_or_concat B with hb | ⟨B', y, hb⟩
  ·subst hb
   exact J_last hd
  ·subst hb
   have := J_last (l := A ++ d :: B') (hB y (by simp))
   simpa using this
 ·intro h0
  have : J (A ++ d :: B) ≠ [] := J_ne (by
   intro x hx
   rcases List.mem_append.1 hx with hx | hx
   ·exact hA x hx
   ·rcases List.mem_cons.1 hx with rfl | hx
    ·exact hd
    ·exact hB x hx) (by simp)
  exact this h0
theorem flat_J {l : List Word} (h : l ≠ []) : l.flatMap (fun w => w ++ [32]) = J l ++ [32] := by
 induction l with
 | nil => exact absurd rfl h
 | cons a r ih =>
   by_cases hr : r = []
   ·subst hr
    simp [J, Lib.join_one]
   ·rw [List.flatMap_cons, ih hr, show J (a :: r) = a ++ Lib.joinTail [32] r from Lib.join_cons _ _ _, joinTail_J hr]
    simp
end Go.Proofs.YthnhbcohfoodlaaGreatDoor

namespace Go.Proofs.YthnhbcohfoodlaaGreatDoor
open Go.RowKit
theorem wordsGo_minus (l : List ItemD) : ∀ i : Nat, (wordsGo (-1) i l).length = l.length := by
 induction l with
 | nil => intro i; unfold wordsGo; rw [if_neg (by omega)]; rfl
 | cons a l ih =>
   intro i
   unfold wordsGo
   rw [if_neg (by omega)]
   simp [ih (i + 1)]
theorem wordsP_len {l : List ItemD} {cursor : Int} (h : itemsP l = 0) : (wordsP l cursor).length ≤ 41 := by
 obtain ⟨h1, h2⟩ := items_ok h
 have := (wordsGo_ok cursor l 0 h2).1
 unfold wordsP
 omega
end Go.Proofs.YthnhbcohfoodlaaGreatDoor
