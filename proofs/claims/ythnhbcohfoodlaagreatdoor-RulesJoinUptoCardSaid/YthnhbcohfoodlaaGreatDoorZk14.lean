/- SetWork + SpanInfo + SetSame -/
import Derived.Test.YthnhbcohfoodlaaGreatDoorZk13
namespace Go.Proofs.YthnhbcohfoodlaaGreatDoor
open Go.RowKit
def notGo (a : Int) : Spans → Spans
  | [] => if a ≤ 1114111 then [(a, 1114111)] else []
  | x :: s => (if a < x.1 then [(a, x.1 - 1)] else []) ++ notGo (x.2 + 1) s
theorem notGo_is (s : Spans) : ∀ a, 0 ≤ a → Canon s → (∀ x ∈ s, a ≤ x.1) → Canon (notGo a s) ∧ (∀ y ∈ notGo a s, a ≤ y.1) ∧ ∀ r, a ≤ r → r ≤ 1114111 → hasP (notGo a s) r = !hasP s r := by
  induction s with
  | nil =>
    intro a h0 _ _
    unfold notGo
    split
    · rename_i h
      refine ⟨⟨by simp; omega, List.pairwise_singleton _ _⟩, by simp, fun r h1 h2 => ?_⟩
      simp [hasP]
      omega
    · exact ⟨Canon.nil, by simp, fun r h1 h2 => by omega⟩
  | cons x s ih =>
    intro a h0 hc hl
    have hx := hc.each x List.mem_cons_self
    have hax := hl x List.mem_cons_self
    have hlow := hc.low
    obtain ⟨i1, i2, i3⟩ := ih (x.2 + 1) (by omega) hc.tail (fun y hy => by have := hlow y hy; omega)
    have key : ∀ r, x.1 ≤ r → r ≤ 1114111 → hasP (notGo (x.2 + 1) s) r = !hasP (x :: s) r := by
      intro r h1 h2
      rw [hasP_cons]
      by_cases hr : r ≤ x.2
      · rw [hasP_low (s := notGo (x.2 + 1) s) (m := x.2) (fun y hy => by have := i2 y hy; omega) hr]
        simp [h1, hr]
      · rw [i3 r (by omega) h2]
        simp [hr]
    unfold notGo
    split
    · rename_i h
      refine ⟨⟨fun y hy => ?_, ?_⟩, fun y hy => ?_, fun r h1 h2 => ?_⟩
      · rcases List.mem_append.1 hy with hy | hy
        · rw [List.mem_singleton.1 hy]; simp only; omega
        · exact i1.each y hy
      · rw [List.pairwise_append]
        refine ⟨List.pairwise_singleton _ _, i1.rise, fun p hp q hq => ?_⟩
        rw [List.mem_singleton.1 hp]
        have := i2 q hq
        simp only
        omega
      · rcases List.mem_append.1 hy with hy | hy
        · rw [List.mem_singleton.1 hy]; exact Int.le_refl _
        · have := i2 y hy; omega
      · rw [hasP_append]
        by_cases hr : x.1 ≤ r
        · rw [key r hr h2]
          simp [hasP]
          omega
        · rw [hasP_low (s := notGo (x.2 + 1) s) (m := x.2) (fun y hy => by have := i2 y hy; omega) (by omega), hasP_cons x s, hasP_low (s := s) (m := x.2 + 1) hlow (by omega)]
          rw [decide_eq_false hr]
          simp [hasP]
          omega
    · refine ⟨i1, fun y hy => by have := i2 y hy; omega, fun r h1 h2 => ?_⟩
      rw [List.nil_append]
      exact key r (by omega) h2
def notP (s : Spans) : Spans := notGo 0 s
theorem notP_is {s : Spans} (h : Canon s) : Canon (notP s) ∧ ∀ r, 0 ≤ r → r ≤ 1114111 → hasP (notP s) r = !hasP s r :=
  let ⟨h1, _, h3⟩ := notGo_is s 0 (Int.le_refl _) h (fun x hx => (h.each x hx).1)
  ⟨h1, h3⟩
def meetP : Spans → Spans → Spans
  | [], _ => []
  | _ :: _, [] => []
  | x :: a, y :: b => (if max x.1 y.1 ≤ min x.2 y.2 then [(max x.1 y.1, min x.2 y.2)] else []) ++ (if x.2 < y.2 then meetP a (y :: b) else meetP (x :: a) b)
termination_by a b => a.length + b.length
theorem meetP_nil (b : Spans) : meetP [] b = [] := by unfold meetP; rfl
theorem meetP_nil2 (a : Spans) : meetP a [] = [] := by cases a <;> unfold meetP <;> rfl
theorem meetP_cons (x y : Int × Int) (a b : Spans) : meetP (x :: a) (y :: b) = (if max x.1 y.1 ≤ min x.2 y.2 then [(max x.1 y.1, min x.2 y.2)] else []) ++ (if x.2 < y.2 then meetP a (y :: b) else meetP (x :: a) b) := by
  rw [meetP]
theorem meet_all (n : Nat) : ∀ a b : Spans, a.length + b.length ≤ n → Canon a → Canon b →
    (meetP a b).length ≤ a.length + b.length ∧ Canon (meetP a b) ∧ (∀ z ∈ meetP a b, (∃ x ∈ a, x.1 ≤ z.1) ∧ ∃ y ∈ b, y.1 ≤ z.1) ∧ ∀ r, hasP (meetP a b) r = (hasP a r && hasP b r) := by
  induction n with
  | zero =>
    intro a b hn _ _
    obtain rfl : a = [] := List.eq_nil_of_length_eq_zero (by omega)
    rw [meetP_nil]
    exact ⟨Nat.zero_le _, Canon.nil, by simp, fun r => by simp [hasP]⟩
  | succ n ih =>
    intro a b hn ha hb
    cases a with
    | nil => rw [meetP_nil]; exact ⟨Nat.zero_le _, Canon.nil, by simp, fun r => by simp [hasP]⟩
    | cons x a =>
      cases b with
      | nil => rw [meetP_nil2]; exact ⟨Nat.zero_le _, Canon.nil, by simp, fun r => by simp [hasP]⟩
      | cons y b =>
        have hx := ha.each x List.mem_cons_self
        have hy := hb.each y List.mem_cons_self
        have la := ha.low
        have lb := hb.low
        rw [List.length_cons, List.length_cons] at hn
        rw [meetP_cons]
        by_cases h : x.2 < y.2
        · rw [if_pos h]
          obtain ⟨i0, i1, i2, i3⟩ := ih a (y :: b) (by rw [List.length_cons]; omega) ha.tail hb
          rw [List.length_cons] at i0
          have hlow : ∀ z ∈ meetP a (y :: b), x.2 + 1 < z.1 := fun z hz => by
            obtain ⟨⟨p, hp, h1⟩, _⟩ := i2 z hz
            have := la p hp
            omega
          have hmin : min x.2 y.2 = x.2 := by omega
          rw [hmin]
          refine ⟨?_, ?_, fun z hz => ?_, fun r => ?_⟩
          · rw [List.length_append, List.length_cons, List.length_cons]; split <;> simp <;> omega
          · split
            · rename_i hm
              refine ⟨fun z hz => ?_, ?_⟩
              · rcases List.mem_append.1 hz with hz | hz
                · rw [List.mem_singleton.1 hz]; simp only; omega
                · exact i1.each z hz
              · rw [List.pairwise_append]
                refine ⟨List.pairwise_singleton _ _, i1.rise, fun p hp q hq => ?_⟩
                rw [List.mem_singleton.1 hp]
                exact hlow q hq
            · exact i1
          · rcases List.mem_append.1 hz with hz | hz
            · split at hz
              · rw [List.mem_singleton.1 hz]
                exact ⟨⟨x, List.mem_cons_self, by simp only; omega⟩, y, List.mem_cons_self, by simp only; omega⟩
              · simp at hz
            · obtain ⟨⟨p, hp, h1⟩, h2⟩ := i2 z hz
              exact ⟨⟨p, List.mem_cons_of_mem _ hp, h1⟩, h2⟩
          · rw [hasP_append, i3, hasP_cons x a]
            have e1 : hasP (if max x.1 y.1 ≤ x.2 then [(max x.1 y.1, x.2)] else []) r = ((decide (x.1 ≤ r) && decide (r ≤ x.2)) && decide (y.1 ≤ r)) := by
              split
              · rw [Bool.eq_iff_iff]; simp [hasP]; omega
              · rw [Bool.eq_iff_iff]; simp [hasP]; omega
            rw [e1]
            by_cases hr : r ≤ x.2
            · rw [hasP_low (s := a) (m := x.2 + 1) la (by omega), hasP_cons y b, hasP_low (s := b) (m := y.2 + 1) lb (by omega)]
              rw [Bool.eq_iff_iff]; simp; omega
            · simp [hr]
        · rw [if_neg h]
          obtain ⟨i0, i1, i2, i3⟩ := ih (x :: a) b (by rw [List.length_cons]; omega) ha hb.tail
          rw [List.length_cons] at i0
          have hlow : ∀ z ∈ meetP (x :: a) b, y.2 + 1 < z.1 := fun z hz => by
            obtain ⟨_, ⟨p, hp, h1⟩⟩ := i2 z hz
            have := lb p hp
            omega
          have hmin : min x.2 y.2 = y.2 := by omega
          rw [hmin]
          refine ⟨?_, ?_, fun z hz => ?_, fun r => ?_⟩
          · rw [List.length_append, List.length_cons, List.length_cons]; split <;> simp <;> omega
          · split
            · rename_i hm
              refine ⟨fun z hz => ?_, ?_⟩
              · rcases List.mem_append.1 hz with hz | hz
                · rw [List.mem_singleton.1 hz]; simp only; omega
                · exact i1.each z hz
              · rw [List.pairwise_append]
                refine ⟨List.pairwise_singleton _ _, i1.rise, fun p hp q hq => ?_⟩
                rw [List.mem_singleton.1 hp]
                exact hlow q hq
            · exact i1
          · rcases List.mem_append.1 hz with hz | hz
            · split at hz
              · rw [List.mem_singleton.1 hz]
                exact ⟨⟨x, List.mem_cons_self, by simp only; omega⟩, y, List.mem_cons_self, by simp only; omega⟩
              · simp at hz
            · obtain ⟨h1, ⟨p, hp, h2⟩⟩ := i2 z hz
              exact ⟨h1, p, List.mem_cons_of_mem _ hp, h2⟩
          · rw [hasP_append, i3, hasP_cons y b]
            have e1 : hasP (if max x.1 y.1 ≤ y.2 then [(max x.1 y.1, y.2)] else []) r = ((decide (y.1 ≤ r) && decide (r ≤ y.2)) && decide (x.1 ≤ r)) := by
              split
              · rw [Bool.eq_iff_iff]; simp [hasP]; omega
              · rw [Bool.eq_iff_iff]; simp [hasP]; omega
            rw [e1]
            by_cases hr : r ≤ y.2
            · rw [hasP_low (s := b) (m := y.2 + 1) lb (by omega), hasP_cons x a, hasP_low (s := a) (m := x.2 + 1) la (by omega)]
              rw [Bool.eq_iff_iff]; simp; omega
            · simp [hr]
theorem meetP_is {a b : Spans} (ha : Canon a) (hb : Canon b) : (meetP a b).length ≤ a.length + b.length ∧ Canon (meetP a b) ∧ ∀ r, hasP (meetP a b) r = (hasP a r && hasP b r) :=
  let ⟨h0, h1, _, h3⟩ := meet_all _ a b (Nat.le_refl _) ha hb
  ⟨h0, h1, h3⟩
def mergeStep (out : Spans) (x : Int × Int) : Spans :=
  match out.getLast? with
  | some k => if x.1 ≤ k.2 + 1 then out.dropLast ++ [(k.1, max k.2 x.2)] else out ++ [x]
  | none => out ++ [x]
theorem mergeStep_nil (x : Int × Int) : mergeStep [] x = [x] := rfl
theorem mergeStep_snoc (i : Spans) (k x : Int × Int) : mergeStep (i ++ [k]) x = if x.1 ≤ k.2 + 1 then i ++ [(k.1, max k.2 x.2)] else i ++ [k] ++ [x] := by
  unfold mergeStep
  simp
def mergedP (l : Spans) : Spans := l.foldl mergeStep []
theorem mergeStep_is {out : Spans} {x : Int × Int} (h : Canon out) (hx : 0 ≤ x.1 ∧ x.1 ≤ x.2 ∧ x.2 ≤ 1114111) (hl : ∀ y ∈ out, y.1 ≤ x.1) :
    Canon (mergeStep out x) ∧ (∀ y ∈ mergeStep out x, y.1 ≤ x.1) ∧ (mergeStep out x).length ≤ out.length + 1 ∧ ∀ r, hasP (mergeStep out x) r = (hasP out r || (decide (x.1 ≤ r) && decide (r ≤ x.2))) := by
  rcases List.eq_nil_or_concat out with rfl | ⟨i, k, rfl⟩
  · rw [mergeStep_nil]
    exact ⟨⟨by simpa using hx, List.pairwise_singleton _ _⟩, by simp, by simp, fun r => by simp [hasP]⟩
  · rw [List.concat_eq_append] at h hl ⊢
    obtain ⟨hi, hk, hik⟩ := snoc_canon h
    have hkx := hl k (by simp)
    rw [mergeStep_snoc]
    by_cases he : x.1 ≤ k.2 + 1
    · rw [if_pos he]
      refine ⟨canon_snoc hi ⟨hk.1, by simp only; omega, by simp only; omega⟩ hik, fun y hy => ?_, by simp, fun r => ?_⟩
      · rcases List.mem_append.1 hy with hy | hy
        · exact hl y (by simp [hy])
        · rw [List.mem_singleton.1 hy]; exact hkx
      · rw [hasP_append, hasP_append, Bool.or_assoc]
        congr 1
        simp only [hasP, List.any_cons, List.any_nil, Bool.or_false]
        rw [Bool.eq_iff_iff]
        simp
        omega
    · rw [if_neg he]
      refine ⟨canon_snoc h hx (fun y hy => ?_), fun y hy => ?_, by simp, fun r => ?_⟩
      · rcases List.mem_append.1 hy with hy | hy
        · have := hik y hy; omega
        · rw [List.mem_singleton.1 hy]; omega
      · rcases List.mem_append.1 hy with hy | hy
        · exact hl y hy
        · rw [List.mem_singleton.1 hy]; exact Int.le_refl _
      · rw [hasP_append]
        congr 1
        simp [hasP]
theorem merge_go (l : Spans) : ∀ out : Spans, Canon out → (∀ x ∈ l, 0 ≤ x.1 ∧ x.1 ≤ x.2 ∧ x.2 ≤ 1114111) → l.Pairwise (fun a b => a.1 ≤ b.1) → (∀ y ∈ out, ∀ x ∈ l, y.1 ≤ x.1) →
    Canon (l.foldl mergeStep out) ∧ (l.foldl mergeStep out).length ≤ out.length + l.length ∧ ∀ r, hasP (l.foldl mergeStep out) r = (hasP out r || hasP l r) := by
  induction l with
  | nil => intro out h _ _ _; exact ⟨h, Nat.le_refl _, fun r => by simp [hasP]⟩
  | cons x l ih =>
    intro out h hv hs hl
    rw [List.pairwise_cons] at hs
    obtain ⟨m1, m2, m3, m4⟩ := mergeStep_is h (hv x List.mem_cons_self) (fun y hy => hl y hy x List.mem_cons_self)
    obtain ⟨i1, i2, i3⟩ := ih (mergeStep out x) m1 (fun y hy => hv y (List.mem_cons_of_mem _ hy)) hs.2 (fun y hy z hz => by have := m2 y hy; have := hs.1 z hz; omega)
    rw [List.foldl_cons, List.length_cons]
    refine ⟨i1, by omega, fun r => ?_⟩
    rw [i3, m4, hasP_cons, Bool.or_assoc]
theorem mergedP_is {l : Spans} (hv : ∀ x ∈ l, 0 ≤ x.1 ∧ x.1 ≤ x.2 ∧ x.2 ≤ 1114111) (hs : l.Pairwise (fun a b => a.1 ≤ b.1)) : Canon (mergedP l) ∧ (mergedP l).length ≤ l.length ∧ ∀ r, hasP (mergedP l) r = hasP l r := by
  obtain ⟨h1, h2, h3⟩ := merge_go l [] Canon.nil hv hs (by simp)
  exact ⟨h1, by rw [mergedP]; simpa using h2, fun r => by rw [mergedP, h3]; simp [hasP]⟩
theorem hasP_perm {a b : Spans} (h : a.Perm b) (r : Int) : hasP a r = hasP b r := by
  rw [Bool.eq_iff_iff, hasP_iff, hasP_iff]
  exact ⟨fun ⟨x, hx, h1⟩ => ⟨x, h.mem_iff.1 hx, h1⟩, fun ⟨x, hx, h1⟩ => ⟨x, h.mem_iff.2 hx, h1⟩⟩
def fitP (s : Spans) : Spans × Int := if 200 < s.length then ([], 5) else (s, 0)
theorem union_is {a b l : Spans} (ha : RightSet a) (hb : RightSet b) (hp : (a ++ b).Perm l) (hs : l.Pairwise (fun a b => a.1 ≤ b.1)) : opP 124 a b = fitP (mergedP l) := by
  obtain ⟨h1, _, h3⟩ := mergedP_is (l := l) (fun x hx => by
    rcases List.mem_append.1 (hp.mem_iff.2 hx) with h | h
    · exact ha.each x h
    · exact hb.each x h) hs
  refine op_is (by decide) ha hb h1 fun r _ _ => ?_
  rw [h3, ← hasP_perm hp, hasP_append]
  simp [doHolds]
theorem meet_is {a b : Spans} (ha : RightSet a) (hb : RightSet b) : opP 38 a b = fitP (meetP a b) := by
  obtain ⟨_, h1, h3⟩ := meetP_is ha.canon hb.canon
  refine op_is (by decide) ha hb h1 fun r _ _ => ?_
  rw [h3]
  simp [doHolds]
theorem minus_is {a b : Spans} (ha : RightSet a) (hb : RightSet b) : opP 45 a b = fitP (meetP a (notP b)) := by
  obtain ⟨n1, n2⟩ := notP_is hb.canon
  obtain ⟨_, h1, h3⟩ := meetP_is ha.canon n1
  refine op_is (by decide) ha hb h1 fun r h0 h2 => ?_
  rw [h3, n2 r h0 h2]
  simp [doHolds]
theorem compl_is {a : Spans} (ha : RightSet a) (b : Spans) : opP 94 a b = fitP (notP a) := by
  obtain ⟨n1, n2⟩ := notP_is ha.canon
  exact not_is ha n1 n2 b
end Go.Proofs.YthnhbcohfoodlaaGreatDoor

namespace Go.Proofs.YthnhbcohfoodlaaGreatDoor
open Go.RowKit
theorem infoSpan : (Tryz.prog.info? 74).map (fun i => (i.zero, i.size, i.bytes)) = some (some (.agg #[.int .i32 0, .int .i32 0]), 2, 8) := by kernel_rfl
theorem span_one (x y : Int) : ∀ u ∈ [Value.int .i32 x, .int .i32 y], u.oneCell' = true := by
  intro u hu; simp at hu; rcases hu with rfl | rfl <;> rfl
theorem spanCells_snoc (l : Spans) (x y : Int) : spanCells (l ++ [(x, y)]) = spanCells l ++ [.int .i32 x, .int .i32 y] := by simp [spanCells]
theorem spanCells_one (l : Spans) : ∀ u ∈ spanCells l, u.oneCell' = true := by
  intro u hu
  simp only [spanCells, List.mem_flatMap] at hu
  obtain ⟨x, _, hu⟩ := hu
  simp at hu
  rcases hu with rfl | rfl <;> rfl
theorem spanCells_app2 (a b : Spans) : spanCells (a ++ b) = spanCells a ++ spanCells b := by simp [spanCells]
theorem spanCells_append (a b : Spans) : spanCells (a ++ b) = spanCells a ++ spanCells b := by simp [spanCells]
end Go.Proofs.YthnhbcohfoodlaaGreatDoor

namespace Go.Proofs.YthnhbcohfoodlaaGreatDoor
open Go.RowKit
set_option maxHeartbeats 800000 in
theorem set_same (A C : Option Addr) (n m c d : Nat) (s : Spans) (w : World) (B B' : Nat) (hn : n ≤ 9223372036854775807) (hx : RdS w B A n s) (hy : RdS w B' C m s) :
    Calls Tryz.prog 12 #[.slice A n c, .slice C m d] w fun e w' => e = .returned (.bool true) ∧ ∃ k, w' = w.drewN k := by
  obtain rfl : n = m := by rw [← hx.len, ← hy.len]
  have HX := Lib.hid hx
  have HY := Lib.hid hy
  have HL := Lib.hid hx.len
  clear hx hy
  go_enter Tryz.func12, Tryz.ntmps12
  go_wp2
  go_loopw [13] (fun i wr => ∃ k q : Nat, k ≤ n ∧ i = .int .i64 k ∧ wr = w.drewN q) (fun i _ => n - (intOf i).toNat)
  case atStart => exact ⟨0, 0, Nat.zero_le _, rfl, rfl⟩
  case round =>
    obtain ⟨k, q, hk, rfl, rfl⟩ := hrel
    by_cases hlt : k < n
    · obtain ⟨⟨x, y⟩, hz⟩ : ∃ z, s[k]? = some z := ⟨_, List.getElem?_eq_getElem (by rw [HL.out]; exact hlt)⟩
      obtain ⟨b1, o1, rfl, hb1, c0, c1⟩ := HX.out.at hz
      obtain ⟨b2, o2, rfl, hb2, d0, d1⟩ := HY.out.at hz
      clear hz
      go_wp2
      go_quiet (fail)
      go_wp2
      refine ⟨⟨k + 1, _, by omega, by go_num, rfl⟩, by simp [intOf]; omega⟩
    · obtain rfl : k = n := by omega
      go_wp2
      go_ret
      exact ⟨rfl, _, rfl⟩
end Go.Proofs.YthnhbcohfoodlaaGreatDoor
