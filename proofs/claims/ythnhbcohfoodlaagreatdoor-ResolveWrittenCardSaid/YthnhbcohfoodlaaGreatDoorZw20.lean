/- FileText + RulesText -/
import Derived.Test.YthnhbcohfoodlaaGreatDoorZw19
import Derived.Test.YthnhbcohfoodlaaGreatDoorZw10
import Derived.Test.YthnhbcohfoodlaaGreatDoorZw14
import Derived.Test.YthnhbcohfoodlaaGreatDoorZw12
namespace Go.Proofs.YthnhbcohfoodlaaGreatDoor
open Go.RowKit
abbrev Word := List UInt8
def l8 (l : af) : Word := (cW l).1.data.toList
def eA (a : ak) : Word := if a.kind = 1 then dK a.rune else if a.kind = 2 then l8 a.set else 36 :: a.name.data.toList
def eU (aa : Int) : Nat → List ak → List Word
  | i, [] => if (i : Int) = aa then [[124]] else []
  | i, a :: r => (if (i : Int) = aa then [[124]] else []) ++ eA a :: eU aa (i + 1) r
def cN (l : List ak) (aa : Int) : List Word := eU aa 0 l
def dB (s : bk) : List Word :=
  let a := (if s.start = true then [[94]] else []) ++ cN s.before (-1)
  a ++ (if a = [] then [] else [[123]]) ++ cN s.source s.aa ++ (if s.fin = true ∨ 0 < s.after.length then [125] :: cN s.after (-1) else []) ++ (if s.fin = true then [[36]] else [])
def lX (d : Int) : Word := if d = 1 then [62] else if d = 2 then [60] else [60, 62]
def dM (p : ay) : List Word :=
  if p.kind = 1 then [36 :: p.name.data.toList, [61], l8 p.set]
  else if p.kind = 3 then [[58, 58], l8 p.set]
  else if p.kind = 4 then [[58, 58], p.name.data.toList]
  else dB p.left ++ lX p.dir :: dB p.right
def uh (p : ay) : Word := (dM p).flatMap (fun w => w ++ [32]) ++ [59, 10]
def fG (l : List ay) : Word := l.flatMap uh
def At (L : List Int) (p : Nat) (X : List Int) : Prop := ∃ pre post, L = pre ++ (X ++ post) ∧ pre.length = p
section
variable {L : List Int} {p : Nat} {X Y : List Int}
theorem At.left (h : At L p (X ++ Y)) : At L p X := by
 obtain ⟨pre, post, e, hl⟩ := h;exact ⟨pre, Y ++ post, by rw [e, List.append_assoc], hl⟩
theorem At.right (h : At L p (X ++ Y)) : At L (p + X.length) Y := by
 obtain ⟨pre, post, e, hl⟩ := h;exact ⟨pre ++ X, post, by rw [e]; simp, by rw [List.length_append, hl]⟩
theorem At.tail {x : Int} (h : At L p (x :: X)) : At L (p + 1) X := At.right (X := [x]) h
theorem At.pk {x : Int} (h : At L p (x :: X)) : pk L p = x := by
 obtain ⟨pre, post, e, hl⟩ := h;subst hl;rw [e, ig];rfl
theorem At.lt {x : Int} (h : At L p (x :: X)) : p < L.length := by
 obtain ⟨pre, post, e, hl⟩ := h;rw [e, ← hl, List.length_append, List.length_append, List.length_cons];omega
theorem At.le (h : At L p X) : p + X.length ≤ L.length := by
 obtain ⟨pre, post, e, hl⟩ := h;rw [e, ← hl, List.length_append, List.length_append];omega
theorem At.of (h : At L p X) (e : X = Y) : At L p Y := e ▸ h
end
theorem zL {L : List Int} {p : Nat} {X : List Int} (h : At L p (32 :: X)) : ai L p = ai L (p + 1) := xm h.lt (by rw [h.pk]; rfl)
theorem DC {L : List Int} {p : Nat} {X : List Int} (h : At L p (10 :: X)) : ai L p = ai L (p + 1) := xm h.lt (by rw [h.pk]; rfl)
def eE (x : Int) : Prop := gC x = false ∧ x ≠ 35
theorem dA {L : List Int} {p : Nat} (h : eE (pk L p)) : ai L p = p := qP h.1 h.2
def eS (s : ByteArray) : List Int := s.data.toList.map fun b => (b.toNat : Int)
def dU (a : ak) : List Int := if a.kind = 1 then bE a.rune else if a.kind = 2 then bO a.set else 36 :: eS a.name
def bC (aa : Int) : Nat → List ak → List (List Int)
  | i, [] => if (i : Int) = aa then [[124]] else []
  | i, a :: r => (if (i : Int) = aa then [[124]] else []) ++ dU a :: bC aa (i + 1) r
def aK (l : List ak) (aa : Int) : List (List Int) := bC aa 0 l
def fC (s : bk) : List (List Int) :=
  let a := (if s.start = true then [[94]] else []) ++ aK s.before (-1)
  a ++ (if a = [] then [] else [[123]]) ++ aK s.source s.aa ++ (if s.fin = true ∨ 0 < s.after.length then [125] :: aK s.after (-1) else []) ++ (if s.fin = true then [[36]] else [])
def qY (d : Int) : List Int := if d = 1 then [62] else if d = 2 then [60] else [60, 62]
def ff (p : ay) : List (List Int) :=
  if p.kind = 1 then [36 :: eS p.name, [61], bO p.set]
  else if p.kind = 3 then [[58, 58], bO p.set]
  else if p.kind = 4 then [[58, 58], eS p.name]
  else fC p.left ++ qY p.dir :: fC p.right
def aE (l : List (List Int)) : List Int := l.flatMap fun w => w ++ [32]
def uA (p : ay) : List Int := aE (ff p) ++ [59, 10]
def iA (l : List ay) : List Int := l.flatMap uA
theorem dH (a b : List (List Int)) : aE (a ++ b) = aE a ++ aE b := by simp [aE]
theorem bf (w : List Int) (a : List (List Int)) : aE (w :: a) = w ++ (32 :: aE a) := by simp [aE]
theorem nA : aE [] = [] := rfl
theorem FY (l : List (List Int)) : l.length ≤ (aE l).length := by
 induction l with
 | nil => simp [aE]
 | cons w l ih =>
  rw [bf, List.length_append, List.length_cons, List.length_cons];omega
def Vf (r : Int) : Bool := gQ r || uR r
theorem yE {b : UInt8} {i : Nat} (h : ie i b = true) : Vf (b.toNat : Int) = true ∧ (i = 0 → gQ (b.toNat : Int) = true) ∧ b.toNat < 128 := by
 unfold ie at h;rw [decide_eq_true_iff] at h;unfold Vf gQ uR;simp only [Bool.or_eq_true, Bool.and_eq_true, decide_eq_true_eq];omega
def vo (s : ByteArray) : Prop := 1 ≤ s.size ∧ ∀ (i : Nat) (h : i < s.size), ie i s[i] = true
theorem fq {s : ByteArray} (h : cV s = true) : vo s := by
 unfold cV at h;rw [decide_eq_true_iff] at h;exact ⟨h.1, h.2.2⟩
theorem q6 {s : ByteArray} (h : ku s = true) : vo s := by
 have key : ∀ t : ByteArray, s.toList = t.toList → s = t := by
  intro t e;have := congrArg (fun l => l.toArray) e;simp [ByteArray.toList_eq] at this;exact ByteArray.ext this
 unfold ku og at h;simp only [List.any_cons, List.any_nil, Bool.or_false, Bool.or_eq_true, beq_iff_eq] at h;rcases h with h | h | h | h
 ·rw [key _ h]; exact fq (by decide)
 ·rw [key _ h]; exact fq (by decide)
 ·rw [key _ h]; exact fq (by decide)
 rw [key _ h]; exact fq (by decide)
theorem ng {s : ByteArray} (h : vo s) : (∀ d ∈ eS s, Vf d = true) ∧ (∀ b ∈ s.data.toList, b.toNat < 128) ∧ ∃ x t, eS s = x :: t ∧ gQ x = true := by
 have hg : ∀ b ∈ s.data.toList, ∃ i, ie i b = true := by
  intro b hb;obtain ⟨i, hi, e⟩ := List.mem_iff_getElem.1 hb;have hi2 : i < s.size := (by simpa using hi);refine ⟨i, ?_⟩;have := h.2 i hi2;have e2 : s[i] = b := (by rw [← e]; rfl);rwa [e2] at this
 refine ⟨?_, fun b hb => let ⟨i, hi⟩ := hg b hb; (yE hi).2.2, ?_⟩
 ·intro d hd;obtain ⟨b, hb, rfl⟩ := List.mem_map.1 hd;obtain ⟨i, hi⟩ := hg b hb;exact (yE hi).1
 unfold eS;cases hl : s.data.toList with
 | nil =>
  have h1 := h.1;have h2 : s.size = s.data.toList.length := (by rw [Array.length_toList]; rfl);rw [hl, List.length_nil] at h2;omega
 | cons b t =>
  refine ⟨_, _, rfl, ?_⟩;have h0 : 0 < s.size := h.1;have := h.2 0 h0;have e2 : s[0] = b := by
   have : s.data.toList[0]'(by rw [hl]; simp) = b := (by simp [hl]);rw [← this]; rfl
  rw [e2] at this;exact (yE this).2.1 rfl
theorem iP (s : ByteArray) : (eS s).length = s.size := by simp [eS]
theorem NJ {L : List Int} {p : Nat} {h X : List Int} {x : Int} {q : Int → Bool} (hA : At L p (h ++ x :: X)) (h1 : ∀ d ∈ h, q d = true) (h2 : q x = false) : aA q L p = p + h.length := by
 obtain ⟨pre, post, e, hl⟩ := hA;unfold aA;rw [e, ← hl, List.drop_left, List.append_assoc, List.cons_append, kf h x _ h1 h2]
theorem Km {L : List Int} {p : Nat} {X : List Int} (hA : At L p X) : aO L p (p + X.length) = X := by
 obtain ⟨pre, post, e, hl⟩ := hA;unfold aO;rw [e, ← hl, List.drop_left, Nat.add_sub_cancel_left, List.take_left]
theorem qN {L : List Int} {p : Nat} {s : ByteArray} {X : List Int} (hs : vo s) (hA : At L p (eS s ++ 32 :: X)) : aV L p = p + s.size ∧ fS L p = s := by
 obtain ⟨g1, g2, x, t, e, g3⟩ := ng hs;have he : aV L p = p + s.size := by
  unfold aV;have hp : pk L p = x := (by rw [e] at hA; exact hA.pk);rw [hp, if_pos g3, ← iP s];exact NJ hA g1 (by decide)
 refine ⟨he, ?_⟩;unfold fS;rw [he, ← iP s, Km hA.left];apply ByteArray.ext;apply Array.toList_inj.1;have ha : cX (eS s) := by
  intro d hd;obtain ⟨b, hb, rfl⟩ := List.mem_map.1 hd;have := g2 b hb;omega
 rw [dY ha];unfold mE eS;rw [List.map_map];have : ((fun x : Int => UInt8.ofNat x.toNat) ∘ fun b : UInt8 => (b.toNat : Int)) = id := by
  funext b;simp
 rw [this, List.map_id]
theorem xy {L : List Int} {p : Nat} {s : ByteArray} {X : List Int} (hs : cV s = true) (hA : At L p (eS s ++ 32 :: X)) : fh L p = .ok (s, p + s.size) := by
 obtain ⟨h1, h2⟩ := qN (fq hs) hA;unfold fh;rw [h2, h1, if_pos hs]
def Ag (x : Int) : Prop := rF x ∨ x = 91 ∨ x = 36 ∨ x = 124
theorem zT {x : Int} (h : rF x) : eE x ∧ x ≠ 124 ∧ x ≠ 91 ∧ x ≠ 36 ∧ x ≠ 39 ∧ x ≠ 61 ∧ x ≠ 94 ∧ x ≠ 123 ∧ x ≠ 125 ∧ x ≠ 58 ∧ x ≠ 60 ∧ x ≠ 62 ∧ x ≠ 59 := by
 rcases h with h | rfl
 ·have hsp : ∀ c ∈ lN, x ≠ c := by
   intro c hc e;subst e;unfold bT at h;rw [List.contains_iff_mem.2 hc] at h;simp at h
  have hb : gC x = false := by
   unfold bT at h;cases hb : gC x;rfl;rw [hb] at h; simp at h
  refine ⟨⟨hb, hsp 35 (by decide)⟩, hsp _ (by decide), hsp _ (by decide), hsp _ (by decide), hsp _ (by decide), hsp _ (by decide), hsp _ (by decide), hsp _ (by decide), hsp _ (by decide), hsp _ (by decide), hsp _ (by decide), hsp _ (by decide), hsp _ (by decide)⟩
 exact ⟨⟨rfl, by decide⟩, by decide, by decide, by decide, by decide, by decide, by decide, by decide, by decide, by decide, by decide, by decide, by decide⟩
theorem ij {x : Int} (h : Ag x) : eE x ∧ x ≠ 61 ∧ x ≠ 94 ∧ x ≠ 123 ∧ x ≠ 125 ∧ x ≠ 58 := by
 rcases h with h | rfl | rfl | rfl
 ·have := zT h;exact ⟨this.1, this.2.2.2.2.2.1, this.2.2.2.2.2.2.1, this.2.2.2.2.2.2.2.1, this.2.2.2.2.2.2.2.2.1, this.2.2.2.2.2.2.2.2.2.1⟩
 exact ⟨⟨rfl, by decide⟩, by decide, by decide, by decide, by decide, by decide⟩;exact ⟨⟨rfl, by decide⟩, by decide, by decide, by decide, by decide, by decide⟩;exact ⟨⟨rfl, by decide⟩, by decide, by decide, by decide, by decide, by decide⟩
theorem oU {a : ak} : ∃ x t, dU a = x :: t ∧ (rF x ∨ x = 91 ∨ x = 36) := by
 unfold dU;split
 ·obtain ⟨h, t, e, hh⟩ := kF a.rune;exact ⟨h, t, e, .inl hh⟩
 split;exact ⟨91, _, rfl, .inr (.inl rfl)⟩;exact ⟨36, _, rfl, .inr (.inr rfl)⟩
theorem Ft {L : List Int} {p : Nat} {a : ak} {X : List Int} (ha : gh a = 0) (hA : At L p (dU a ++ 32 :: X)) (out : List ak) (cur : Int) : bH L p out cur = .ok (some ((out ++ [bZ a], cur), p + (dU a).length)) := by
 have Kv := hA;obtain ⟨pre, post, e, hl⟩ := Kv;rcases gR ha with ⟨h1, hr⟩ | ⟨h2, hs⟩ | ⟨h3, hn⟩
 ·have hq : dU a = bE a.rune := (by unfold dU; rw [if_pos h1]);rw [hq] at e hA ⊢;have DT := cI hr;obtain ⟨h, t, eh, hh⟩ := kF a.rune;have hp : pk L p = h := (by rw [eh] at hA; exact hA.pk);obtain ⟨_, n1, n2, n3, n4, _⟩ := zT hh;have hc := nJ pre (32 :: X ++ post) a.rune DT.1 DT.2;rw [show pre ++ (bE a.rune ++ (32 :: X ++ post)) = L by rw [e]; simp, hl] at hc;have hb : bZ a = j7 a.rune := (by unfold bZ j7 cS; rw [h1]; rfl);unfold bH;rw [hp, if_neg n1, if_neg n2, if_neg (fun x => n3 x.1), if_neg n4, if_pos (by rcases hh with hh | hh; exact .inr hh; exact .inl hh), hc];simp only;rw [if_pos hr, hb]
 ·have hq : dU a = bO a.set := (by unfold dU; rw [h2]; rfl);rw [hq] at e hA ⊢;have hp : pk L p = 91 := hA.pk;have hc := vz pre (32 :: X ++ post) a.set 19 (jN hs);rw [show pre ++ (bO a.set ++ (32 :: X ++ post)) = L by rw [e]; simp, hl] at hc;have hb : bZ a = ⟨2, 0, a.set, cS⟩ := (by unfold bZ cS; rw [h2]; rfl);unfold bH;rw [hp, if_neg (by decide), if_pos rfl, hc, hb]
 have hq : dU a = 36 :: eS a.name := (by unfold dU; rw [h3]; rfl);rw [hq] at e hA ⊢;have hp : pk L p = 36 := hA.pk;have pn : At L (p + 1) (eS a.name ++ 32 :: X) := At.tail hA;have hc := xy hn pn;obtain ⟨_, _, x, t, ex, g3⟩ := ng (fq hn);have hp1 : pk L (p + 1) = x := (by rw [ex] at pn; exact pn.pk);have hb : bZ a = ⟨3, 0, [], a.name⟩ := (by unfold bZ; rw [h3]; rfl);unfold bH;rw [hp, if_neg (by decide), if_neg (by decide), hp1, if_pos ⟨rfl, g3⟩, hc, hb];simp only;rw [List.length_cons, iP, show p + 1 + a.name.size = p + (a.name.size + 1) by omega]
def iJ (L : List Int) (p : Nat) : Prop := eE (pk L p) ∧ ∀ out cur, bH L p out cur = .ok none
theorem pL {L : List Int} {p : Nat} (h : pk L p = 123 ∨ pk L p = 125 ∨ pk L p = 60 ∨ pk L p = 62 ∨ pk L p = 59 ∨ (pk L p = 36 ∧ pk L (p + 1) = 32)) : iJ L p := by
 have key : ∀ x : Int, pk L p = x → eE x → x ≠ 124 → x ≠ 91 → (x ≠ 36 ∨ gQ (pk L (p + 1)) = false) → x ≠ 39 → x ≠ 92 → bT x = false → iJ L p := by
  intro x hx h1 h2 h3 h4 h5 h6 h7;refine ⟨by rw [hx]; exact h1, fun out cur => ?_⟩;unfold bH;rw [hx, if_neg h2, if_neg h3, if_neg, if_neg h5, if_neg]
  ·rintro (h | h);exact h6 h;rw [h7] at h; exact absurd h (by decide)
  rintro ⟨g1, g2⟩;rcases h4 with h4 | h4;exact h4 g1;rw [h4] at g2; exact absurd g2 (by decide)
 rcases h with h | h | h | h | h | ⟨h, h2⟩;exact key _ h ⟨rfl, by decide⟩ (by decide) (by decide) (.inl (by decide)) (by decide) (by decide) (by decide);exact key _ h ⟨rfl, by decide⟩ (by decide) (by decide) (.inl (by decide)) (by decide) (by decide) (by decide);exact key _ h ⟨rfl, by decide⟩ (by decide) (by decide) (.inl (by decide)) (by decide) (by decide) (by decide);exact key _ h ⟨rfl, by decide⟩ (by decide) (by decide) (.inl (by decide)) (by decide) (by decide) (by decide);exact key _ h ⟨rfl, by decide⟩ (by decide) (by decide) (.inl (by decide)) (by decide) (by decide) (by decide);exact key _ h ⟨rfl, by decide⟩ (by decide) (by decide) (.inr (by rw [h2]; decide)) (by decide) (by decide) (by decide)
theorem jX {L : List Int} {f q p : Nat} {out : List ak} {cur : Int} (hq : ai L q = p) (hs : iJ L p) : bJ L (f + 1) q out cur = .ok ((out, cur), p) := by rw [bJ, hq, hs.2]
theorem cn {L : List Int} {q : Nat} {X : List Int} (hA : At L q (32 :: X)) (hs : eE (pk L (q + 1))) : ai L q = q + 1 := by rw [zL hA, dA hs]
theorem dr (aa : Int) (l : List ak) (i : Nat) (L : List Int) (p : Nat) (X : List Int) (hA : At L p (aE (bC aa i l) ++ X)) (hs : eE (pk L (p + (aE (bC aa i l)).length))) : eE (pk L p) := by
 have IG : ∀ Y, At L p (124 :: Y) → eE (pk L p) := fun Y h => (by rw [h.pk]; exact ⟨rfl, by decide⟩);cases l with
 | nil =>
  unfold bC at hA hs;split at hA;exact IG _ hA;rename_i h;rw [if_neg h] at hs;exact hs
 | cons a l =>
  unfold bC at hA;split at hA;exact IG _ hA;obtain ⟨x, t, e, hh⟩ := oU (a := a);rw [List.nil_append, bf, e] at hA;rw [At.pk hA];exact (ij (by rcases hh with h | h | h; exact .inl h; exact .inr (.inl h); exact .inr (.inr (.inl h)))).1
theorem CX (aa : Int) : ∀ (l : List ak) (L : List Int) (i f q p : Nat) (out : List ak) (cur : Int) (X : List Int), At L p (aE (bC aa i l) ++ X) → iJ L (p + (aE (bC aa i l)).length) → ai L q = p → out.length = i →
    (∀ a ∈ l, gh a = 0) → i + l.length ≤ 20 → -1 ≤ aa → aa ≤ ((i + l.length : Nat) : Int) → cur = (if aa < (i : Int) then aa else -1) → (bC aa i l).length < f →
    bJ L f q out cur = .ok ((out ++ l.map bZ, aa), p + (aE (bC aa i l)).length) := by
 have IG : ∀ (L : List Int) (f q p i : Nat) (out : List ak) (cur : Int) (X : List Int), At L p (124 :: 32 :: X) → ai L q = p → out.length = i → i ≤ 20 → cur < 0 → bJ L (f + 1) q out cur = bJ L f (p + 1) out (i : Int) := by
  intro L f q p i out cur X hA hq ho hi hc;rw [bJ, hq];unfold bH;rw [if_pos hA.pk, if_neg (by omega)];simp only;rw [if_neg (by omega), ho]
 intro l;induction l with
 | nil =>
  intro L i f q p out cur X hA hs hq ho hl hi h1 h2 qQ hf;simp only [List.length_nil, Nat.add_zero] at h2 hi;unfold bC at hA hs hf ⊢;by_cases hic : (i : Int) = aa
  ·rw [if_pos hic] at hA hs hf ⊢;have BN : At L p (124 :: 32 :: X) := hA;obtain ⟨f, rfl⟩ : ∃ g, f = g + 2 := ⟨f - 2, by simp at hf; omega⟩;have hs' : iJ L (p + 2) := hs;rw [IG L (f + 1) q p i out cur X BN hq ho hi (by rw [qQ, if_neg (by omega)]; omega), jX (cn (At.tail BN) hs'.1) hs', hic];simp [aE]
  rw [if_neg hic] at hA hs hf ⊢;obtain ⟨f, rfl⟩ : ∃ g, f = g + 1 := ⟨f - 1, by simp at hf; omega⟩;rw [jX hq hs, qQ, if_pos (by omega)];simp [aE]
 | cons a l ih =>
  intro L i f q p out cur X hA hs hq ho hl hi h1 h2 qQ hf;simp only [List.length_cons] at h2 hi;have ha := hl a List.mem_cons_self
  have item : ∀ (f q p : Nat) (cur : Int), At L p (aE (dU a :: bC aa (i + 1) l) ++ X) → iJ L (p + (aE (dU a :: bC aa (i + 1) l)).length) → ai L q = p → cur = (if aa < ((i + 1 : Nat) : Int) then aa else -1) → (dU a :: bC aa (i + 1) l).length < f →
      bJ L f q out cur = .ok ((out ++ (a :: l).map bZ, aa), p + (aE (dU a :: bC aa (i + 1) l)).length) := by
    intro f q p cur hA hs hq qQ hf
    obtain ⟨f, rfl⟩ : ∃ g, f = g + 1 := ⟨f - 1, by omega⟩
    have pn : At L p (dU a ++ 32 :: (aE (bC aa (i + 1) l) ++ X)) := hA.of (by rw [bf]; simp)
    have nT := At.right pn
    have wm := At.tail nT
    have el : p + (aE (dU a :: bC aa (i + 1) l)).length = p + (dU a).length + 1 + (aE (bC aa (i + 1) l)).length := by rw [bf, List.length_append, List.length_cons]; omega
    rw [el] at hs ⊢
    have vn := dr aa l (i + 1) L _ X wm hs.1
    rw [bJ, hq, Ft ha pn]
    simp only
    rw [if_neg (by rw [List.length_append, ho]; simp; omega)]
    rw [ih L (i + 1) f (p + (dU a).length) (p + (dU a).length + 1) (out ++ [bZ a]) cur X wm hs (cn nT vn) (by rw [List.length_append, ho]; rfl) (fun x hx => hl x (List.mem_cons_of_mem _ hx)) (by omega) h1 (by rw [show i + 1 + l.length = i + (l.length + 1) by omega]; exact h2) qQ (by simp at hf; omega)]
    simp
  unfold bC at hA hs hf ⊢;by_cases hic : (i : Int) = aa
  ·rw [if_pos hic, List.singleton_append] at hA hs hf ⊢;have el : p + (aE ([124] :: dU a :: bC aa (i + 1) l)).length = p + 2 + (aE (dU a :: bC aa (i + 1) l)).length := (by rw [bf, List.length_append, List.length_cons, List.length_cons]; simp only [List.length_nil]; omega);have BN : At L p (124 :: 32 :: (aE (dU a :: bC aa (i + 1) l) ++ X)) := hA.of (by rw [bf [124]]; simp);have nT : At L (p + 2) (aE (dU a :: bC aa (i + 1) l) ++ X) := At.tail (At.tail BN);rw [el] at hs ⊢;obtain ⟨f, rfl⟩ : ∃ g, f = g + 1 := ⟨f - 1, by simp at hf; omega⟩;have vn : eE (pk L (p + 2)) := by
    obtain ⟨x, t, e, hh⟩ := oU (a := a);have wm := nT;rw [bf, e] at wm;rw [At.pk wm];exact (ij (by rcases hh with h | h | h; exact .inl h; exact .inr (.inl h); exact .inr (.inr (.inl h)))).1
   rw [IG L f q p i out cur _ BN hq ho (by omega) (by rw [qQ, if_neg (by omega)]; omega)];exact item f (p + 1) (p + 2) i nT hs (cn (At.tail BN) vn) (by rw [if_pos (by omega), hic]) (by simp at hf ⊢; omega)
  rw [if_neg hic, List.nil_append] at hA hs hf ⊢;refine item f q p cur hA hs hq ?_ hf;rw [qQ];by_cases hlt : aa < (i : Int)
  ·rw [if_pos hlt, if_pos (by omega)]
  rw [if_neg hlt, if_neg (by omega)]
theorem iZ {L : List Int} {q p : Nat} {l : List ak} {aa : Int} {X : List Int} (hA : At L p (aE (aK l aa) ++ X)) (hs : iJ L (p + (aE (aK l aa)).length)) (hq : ai L q = p) (hl : aM l = 0) (h1 : -1 ≤ aa) (h2 : aa ≤ l.length) :
    bI L q = .ok ((l.map bZ, aa), p + (aE (aK l aa)).length) := by
 obtain ⟨h20, hall⟩ := dN hl;have h3 := hA.le;have h4 := FY (aK l aa);rw [List.length_append] at h3;have := CX aa l L 0 (L.length + 1) q p [] (-1) X hA hs hq rfl hall (by omega) h1 (by rw [Nat.zero_add]; exact h2) (by split <;> omega) (by unfold aK at h3 h4; omega);exact this
end Go.Proofs.YthnhbcohfoodlaaGreatDoor
