/- SetWork -/
import Derived.Test.YthnhbcohfoodlaaGreatDoorZw6
namespace Go.Proofs.YthnhbcohfoodlaaGreatDoor
open Go.RowKit
def lu (a : Int) : af → af
  | [] => if a ≤ 1114111 then [(a, 1114111)] else []
  | x :: s => (if a < x.1 then [(a, x.1 - 1)] else []) ++ lu (x.2 + 1) s
theorem Hj (s : af) : ∀ a, 0 ≤ a → Canon s → (∀ x ∈ s, a ≤ x.1) → Canon (lu a s) ∧ (∀ y ∈ lu a s, a ≤ y.1) ∧ ∀ r, a ≤ r → r ≤ 1114111 → bP (lu a s) r = !bP s r := by
 induction s with
 | nil =>
  intro a h0 _ _;unfold lu;split
  ·rename_i h;refine ⟨⟨by simp; omega, List.pairwise_singleton _ _⟩, by simp, fun r h1 h2 => ?_⟩;simp [bP];omega
  exact ⟨Canon.nil, by simp, fun r h1 h2 => by omega⟩
 | cons x s ih =>
  intro a h0 hc hl;have hx := hc.each x List.mem_cons_self;have hax := hl x List.mem_cons_self;have CE := hc.low;obtain ⟨i1, i2, i3⟩ := ih (x.2 + 1) (by omega) hc.tail (fun y hy => by have := CE y hy; omega);have key : ∀ r, x.1 ≤ r → r ≤ 1114111 → bP (lu (x.2 + 1) s) r = !bP (x :: s) r := by
   intro r h1 h2;rw [cg];by_cases hr : r ≤ x.2
   ·rw [ep (s := lu (x.2 + 1) s) (m := x.2) (fun y hy => by have := i2 y hy; omega) hr];simp [h1, hr]
   rw [i3 r (by omega) h2];simp [hr]
  unfold lu;split
  ·rename_i h;refine ⟨⟨fun y hy => ?_, ?_⟩, fun y hy => ?_, fun r h1 h2 => ?_⟩
   ·rcases List.mem_append.1 hy with hy | hy
    ·rw [List.mem_singleton.1 hy]; simp only; omega
    exact i1.each y hy
   ·rw [List.pairwise_append];refine ⟨List.pairwise_singleton _ _, i1.rise, fun p hp q hq => ?_⟩;rw [List.mem_singleton.1 hp];have := i2 q hq;simp only;omega
   ·rcases List.mem_append.1 hy with hy | hy
    ·rw [List.mem_singleton.1 hy]; exact Int.le_refl _
    have := i2 y hy; omega
   rw [dy];by_cases hr : x.1 ≤ r
   ·rw [key r hr h2];simp [bP];omega
   rw [ep (s := lu (x.2 + 1) s) (m := x.2) (fun y hy => by have := i2 y hy; omega) (by omega), cg x s, ep (s := s) (m := x.2 + 1) CE (by omega)];rw [decide_eq_false hr];simp [bP];omega
  refine ⟨i1, fun y hy => by have := i2 y hy; omega, fun r h1 h2 => ?_⟩;rw [List.nil_append];exact key r (by omega) h2
def uE (s : af) : af := lu 0 s
theorem yX {s : af} (h : Canon s) : Canon (uE s) ∧ ∀ r, 0 ≤ r → r ≤ 1114111 → bP (uE s) r = !bP s r :=
  let ⟨h1, _, h3⟩ := Hj s 0 (Int.le_refl _) h (fun x hx => (h.each x hx).1)
  ⟨h1, h3⟩
def di : af → af → af
  | [], _ => []
  | _ :: _, [] => []
  | x :: a, y :: b => (if max x.1 y.1 ≤ min x.2 y.2 then [(max x.1 y.1, min x.2 y.2)] else []) ++ (if x.2 < y.2 then di a (y :: b) else di (x :: a) b)
termination_by a b => a.length + b.length
theorem qU (b : af) : di [] b = [] := by unfold di; rfl
theorem vg (a : af) : di a [] = [] := by cases a <;> unfold di <;> rfl
theorem ve (x y : Int × Int) (a b : af) : di (x :: a) (y :: b) = (if max x.1 y.1 ≤ min x.2 y.2 then [(max x.1 y.1, min x.2 y.2)] else []) ++ (if x.2 < y.2 then di a (y :: b) else di (x :: a) b) := by
 rw [di]
theorem Io (n : Nat) : ∀ a b : af, a.length + b.length ≤ n → Canon a → Canon b →
    (di a b).length ≤ a.length + b.length ∧ Canon (di a b) ∧ (∀ z ∈ di a b, (∃ x ∈ a, x.1 ≤ z.1) ∧ ∃ y ∈ b, y.1 ≤ z.1) ∧ ∀ r, bP (di a b) r = (bP a r && bP b r) := by
 induction n with
 | zero =>
  intro a b hn _ _;obtain rfl : a = [] := List.eq_nil_of_length_eq_zero (by omega);rw [qU];exact ⟨Nat.zero_le _, Canon.nil, by simp, fun r => by simp [bP]⟩
 | succ n ih =>
  intro a b hn ha hb;cases a with
  | nil => rw [qU]; exact ⟨Nat.zero_le _, Canon.nil, by simp, fun r => by simp [bP]⟩
  | cons x a =>
   cases b with
   | nil => rw [vg]; exact ⟨Nat.zero_le _, Canon.nil, by simp, fun r => by simp [bP]⟩
   | cons y b =>
    have hx := ha.each x List.mem_cons_self;have hy := hb.each y List.mem_cons_self;have la := ha.low;have lb := hb.low;rw [List.length_cons, List.length_cons] at hn;rw [ve];by_cases h : x.2 < y.2
    ·rw [if_pos h];obtain ⟨i0, i1, i2, i3⟩ := ih a (y :: b) (by rw [List.length_cons]; omega) ha.tail hb;rw [List.length_cons] at i0;have CE : ∀ z ∈ di a (y :: b), x.2 + 1 < z.1 := fun z hz => by
      obtain ⟨⟨p, hp, h1⟩, _⟩ := i2 z hz;have := la p hp;omega
     have hmin : min x.2 y.2 = x.2 := (by omega);rw [hmin];refine ⟨?_, ?_, fun z hz => ?_, fun r => ?_⟩
     ·rw [List.length_append, List.length_cons, List.length_cons]; split <;> simp <;> omega
     ·split
      ·rename_i hm;refine ⟨fun z hz => ?_, ?_⟩
       ·rcases List.mem_append.1 hz with hz | hz
        ·rw [List.mem_singleton.1 hz]; simp only; omega
        exact i1.each z hz
       rw [List.pairwise_append];refine ⟨List.pairwise_singleton _ _, i1.rise, fun p hp q hq => ?_⟩;rw [List.mem_singleton.1 hp];exact CE q hq
      exact i1
     ·rcases List.mem_append.1 hz with hz | hz
      ·split at hz
       ·rw [List.mem_singleton.1 hz];exact ⟨⟨x, List.mem_cons_self, by simp only; omega⟩, y, List.mem_cons_self, by simp only; omega⟩
       simp at hz
      obtain ⟨⟨p, hp, h1⟩, h2⟩ := i2 z hz;exact ⟨⟨p, List.mem_cons_of_mem _ hp, h1⟩, h2⟩
     rw [dy, i3, cg x a];have e1 : bP (if max x.1 y.1 ≤ x.2 then [(max x.1 y.1, x.2)] else []) r = ((decide (x.1 ≤ r) && decide (r ≤ x.2)) && decide (y.1 ≤ r)) := by
      split
      ·rw [Bool.eq_iff_iff]; simp [bP]; omega
      rw [Bool.eq_iff_iff]; simp [bP]; omega
     rw [e1];by_cases hr : r ≤ x.2
     ·rw [ep (s := a) (m := x.2 + 1) la (by omega), cg y b, ep (s := b) (m := y.2 + 1) lb (by omega)];rw [Bool.eq_iff_iff]; simp; omega
     simp [hr]
    rw [if_neg h];obtain ⟨i0, i1, i2, i3⟩ := ih (x :: a) b (by rw [List.length_cons]; omega) ha hb.tail;rw [List.length_cons] at i0;have CE : ∀ z ∈ di (x :: a) b, y.2 + 1 < z.1 := fun z hz => by
     obtain ⟨_, ⟨p, hp, h1⟩⟩ := i2 z hz;have := lb p hp;omega
    have hmin : min x.2 y.2 = y.2 := (by omega);rw [hmin];refine ⟨?_, ?_, fun z hz => ?_, fun r => ?_⟩
    ·rw [List.length_append, List.length_cons, List.length_cons]; split <;> simp <;> omega
    ·split
     ·rename_i hm;refine ⟨fun z hz => ?_, ?_⟩
      ·rcases List.mem_append.1 hz with hz | hz
       ·rw [List.mem_singleton.1 hz]; simp only; omega
       exact i1.each z hz
      rw [List.pairwise_append];refine ⟨List.pairwise_singleton _ _, i1.rise, fun p hp q hq => ?_⟩;rw [List.mem_singleton.1 hp];exact CE q hq
     exact i1
    ·rcases List.mem_append.1 hz with hz | hz
     ·split at hz
      ·rw [List.mem_singleton.1 hz];exact ⟨⟨x, List.mem_cons_self, by simp only; omega⟩, y, List.mem_cons_self, by simp only; omega⟩
      simp at hz
     obtain ⟨h1, ⟨p, hp, h2⟩⟩ := i2 z hz;exact ⟨h1, p, List.mem_cons_of_mem _ hp, h2⟩
    rw [dy, i3, cg y b];have e1 : bP (if max x.1 y.1 ≤ y.2 then [(max x.1 y.1, y.2)] else []) r = ((decide (y.1 ≤ r) && decide (r ≤ y.2)) && decide (x.1 ≤ r)) := by
     split
     ·rw [Bool.eq_iff_iff]; simp [bP]; omega
     rw [Bool.eq_iff_iff]; simp [bP]; omega
    rw [e1];by_cases hr : r ≤ y.2
    ·rw [ep (s := b) (m := y.2 + 1) lb (by omega), cg x a, ep (s := a) (m := x.2 + 1) la (by omega)];rw [Bool.eq_iff_iff]; simp; omega
    simp [hr]
theorem BE {a b : af} (ha : Canon a) (hb : Canon b) : (di a b).length ≤ a.length + b.length ∧ Canon (di a b) ∧ ∀ r, bP (di a b) r = (bP a r && bP b r) :=
  let ⟨h0, h1, _, h3⟩ := Io _ a b (Nat.le_refl _) ha hb
  ⟨h0, h1, h3⟩
def dI (out : af) (x : Int × Int) : af :=
  match out.getLast? with
  | some k => if x.1 ≤ k.2 + 1 then out.dropLast ++ [(k.1, max k.2 x.2)] else out ++ [x]
  | none => out ++ [x]
theorem od (x : Int × Int) : dI [] x = [x] := rfl
theorem jZ (i : af) (k x : Int × Int) : dI (i ++ [k]) x = if x.1 ≤ k.2 + 1 then i ++ [(k.1, max k.2 x.2)] else i ++ [k] ++ [x] := by
 unfold dI;simp
def ic (l : af) : af := l.foldl dI []
theorem yT {out : af} {x : Int × Int} (h : Canon out) (hx : 0 ≤ x.1 ∧ x.1 ≤ x.2 ∧ x.2 ≤ 1114111) (hl : ∀ y ∈ out, y.1 ≤ x.1) :
    Canon (dI out x) ∧ (∀ y ∈ dI out x, y.1 ≤ x.1) ∧ (dI out x).length ≤ out.length + 1 ∧ ∀ r, bP (dI out x) r = (bP out r || (decide (x.1 ≤ r) && decide (r ≤ x.2))) := by
 rcases List.eq_nil_or_concat out with rfl | ⟨i, k, rfl⟩
 ·rw [od];exact ⟨⟨by simpa using hx, List.pairwise_singleton _ _⟩, by simp, by simp, fun r => by simp [bP]⟩
 rw [List.concat_eq_append] at h hl ⊢;obtain ⟨hi, hk, hik⟩ := uX h;have hkx := hl k (by simp);rw [jZ];by_cases he : x.1 ≤ k.2 + 1
 ·rw [if_pos he];refine ⟨lR hi ⟨hk.1, by simp only; omega, by simp only; omega⟩ hik, fun y hy => ?_, by simp, fun r => ?_⟩
  ·rcases List.mem_append.1 hy with hy | hy;exact hl y (by simp [hy]);rw [List.mem_singleton.1 hy]; exact hkx
  rw [dy, dy, Bool.or_assoc];congr 1;simp only [bP, List.any_cons, List.any_nil, Bool.or_false];rw [Bool.eq_iff_iff];simp;omega
 rw [if_neg he];refine ⟨lR h hx (fun y hy => ?_), fun y hy => ?_, by simp, fun r => ?_⟩
 ·rcases List.mem_append.1 hy with hy | hy
  ·have := hik y hy; omega
  rw [List.mem_singleton.1 hy]; omega
 ·rcases List.mem_append.1 hy with hy | hy;exact hl y hy;rw [List.mem_singleton.1 hy]; exact Int.le_refl _
 rw [dy];congr 1;simp [bP]
theorem JZ (l : af) : ∀ out : af, Canon out → (∀ x ∈ l, 0 ≤ x.1 ∧ x.1 ≤ x.2 ∧ x.2 ≤ 1114111) → l.Pairwise (fun a b => a.1 ≤ b.1) → (∀ y ∈ out, ∀ x ∈ l, y.1 ≤ x.1) →
    Canon (l.foldl dI out) ∧ (l.foldl dI out).length ≤ out.length + l.length ∧ ∀ r, bP (l.foldl dI out) r = (bP out r || bP l r) := by
 induction l with
 | nil => intro out h _ _ _; exact ⟨h, Nat.le_refl _, fun r => by simp [bP]⟩
 | cons x l ih =>
  intro out h hv hs hl;rw [List.pairwise_cons] at hs;obtain ⟨m1, m2, m3, m4⟩ := yT h (hv x List.mem_cons_self) (fun y hy => hl y hy x List.mem_cons_self);obtain ⟨i1, i2, i3⟩ := ih (dI out x) m1 (fun y hy => hv y (List.mem_cons_of_mem _ hy)) hs.2 (fun y hy z hz => by have := m2 y hy; have := hs.1 z hz; omega);rw [List.foldl_cons, List.length_cons];refine ⟨i1, by omega, fun r => ?_⟩;rw [i3, m4, cg, Bool.or_assoc]
theorem C4 {l : af} (hv : ∀ x ∈ l, 0 ≤ x.1 ∧ x.1 ≤ x.2 ∧ x.2 ≤ 1114111) (hs : l.Pairwise (fun a b => a.1 ≤ b.1)) : Canon (ic l) ∧ (ic l).length ≤ l.length ∧ ∀ r, bP (ic l) r = bP l r := by
 obtain ⟨h1, h2, h3⟩ := JZ l [] Canon.nil hv hs (by simp);exact ⟨h1, by rw [ic]; simpa using h2, fun r => by rw [ic, h3]; simp [bP]⟩
theorem Fv {a b : af} (h : a.Perm b) (r : Int) : bP a r = bP b r := by
 rw [Bool.eq_iff_iff, pP, pP];exact ⟨fun ⟨x, hx, h1⟩ => ⟨x, h.mem_iff.1 hx, h1⟩, fun ⟨x, hx, h1⟩ => ⟨x, h.mem_iff.2 hx, h1⟩⟩
def th (s : af) : af × Int := if 200 < s.length then ([], 5) else (s, 0)
theorem IC {a b l : af} (ha : aF a) (hb : aF b) (hp : (a ++ b).Perm l) (hs : l.Pairwise (fun a b => a.1 ≤ b.1)) : mq 124 a b = th (ic l) := by
 obtain ⟨h1, _, h3⟩ := C4 (l := l) (fun x hx => by
  rcases List.mem_append.1 (hp.mem_iff.2 hx) with h | h;exact ha.each x h;exact hb.each x h) hs
 refine Ee (by decide) ha hb h1 fun r _ _ => ?_;rw [h3, ← Fv hp, dy];simp [kH]
theorem K5 {a b : af} (ha : aF a) (hb : aF b) : mq 38 a b = th (di a b) := by
 obtain ⟨_, h1, h3⟩ := BE ha.canon hb.canon;refine Ee (by decide) ha hb h1 fun r _ _ => ?_;rw [h3];simp [kH]
theorem GV {a b : af} (ha : aF a) (hb : aF b) : mq 45 a b = th (di a (uE b)) := by
 obtain ⟨n1, n2⟩ := yX hb.canon;obtain ⟨_, h1, h3⟩ := BE ha.canon n1;refine Ee (by decide) ha hb h1 fun r h0 h2 => ?_;rw [h3, n2 r h0 h2];simp [kH]
theorem Hp {a : af} (ha : aF a) (b : af) : mq 94 a b = th (uE a) := by
 obtain ⟨n1, n2⟩ := yX ha.canon;exact Nr ha n1 n2 b
end Go.Proofs.YthnhbcohfoodlaaGreatDoor
