/- SpaceEq + RulesEmb2 -/
import Derived.Test.YthnhbcohfoodlaaGreatDoorZw13
namespace Go.Proofs.YthnhbcohfoodlaaGreatDoor
open Go.RowKit
theorem wP (L : List Int) : ∀ f g i, L.length < f + i → L.length < g + i → eL L f i = eL L g i := by
 have key : ∀ g i, L.length < i → eL L g i = aN L i := by
  intro g i h;cases g with
  | zero => rfl
  | succ g =>
   rw [eL, if_neg];have e : aN L i = i := cx (fun h2 => absurd h2 (by omega));rw [e, mM (by omega)];decide
 intro f;induction f with
 | zero => intro g i h1 h2; rw [key 0 i (by omega), key g i (by omega)]
 | succ f ih =>
  intro g i h1 h2;cases g with
  | zero => rw [key 0 i (by omega), key (f + 1) i (by omega)]
  | succ g =>
   rw [eL, eL];by_cases q5 : pk L (aN L i) = 35
   ·rw [if_pos q5, if_pos q5];have hl : aN L i < L.length := bA (by omega);have h3 := ei L i;have h4 : aN L i + 1 ≤ aA oS L (aN L i) := (by rw [cZ hl (by rw [q5]; rfl)]; exact eO _ _ _);exact ih g _ (by omega) (by omega)
   rw [if_neg q5, if_neg q5]
theorem H8 {L : List Int} {k : Nat} (q5 : pk L k = 35) : k < L.length ∧ k + 1 ≤ aA oS L k := by
 have hl : k < L.length := bA (by omega);exact ⟨hl, by rw [cZ hl (by rw [q5]; rfl)]; exact eO _ _ _⟩
theorem jT (L : List Int) (i : Nat) : ai L i = if pk L (aN L i) = 35 then ai L (aA oS L (aN L i)) else aN L i := by
 show eL L (L.length + 1) i = _;rw [eL];by_cases q5 : pk L (aN L i) = 35
 ·rw [if_pos q5, if_pos q5];have := (H8 q5).2;exact wP L _ _ _ (by omega) (by omega)
 rw [if_neg q5, if_neg q5]
theorem qP {L : List Int} {i : Nat} (h1 : gC (pk L i) = false) (h2 : pk L i ≠ 35) : ai L i = i := by
 have e : aN L i = i := cx (fun _ => h1);rw [jT, e, if_neg h2]
theorem xm {L : List Int} {i : Nat} (hl : i < L.length) (h1 : gC (pk L i) = true) : ai L i = ai L (i + 1) := by
 have e : aN L i = aN L (i + 1) := cZ hl h1;rw [jT L i, e, ← jT]
theorem IN {L : List Int} (hL : cA L) : ∀ (f i : Nat) (out : List ak) (cur : Int) (v : List ak × Int) (j : Nat), bJ L f i out cur = .ok (v, j) → ai L i ≤ j := by
 intro f;induction f with
 | zero => intro i out cur v j h; rw [bJ] at h; cases h
 | succ f ih =>
  intro i out cur v j h;rw [bJ] at h;cases he : bH L (ai L i) out cur with
  | error e => rw [he] at h; cases h
  | ok q =>
   rw [he] at h;cases q with
   | none => simp only at h; injection h with h; injection h with h1 h2; omega
   | some q =>
    obtain ⟨⟨o, c⟩, k⟩ := q;simp only at h;by_cases h20 : 20 < o.length
    ·rw [if_pos h20] at h; cases h
    rw [if_neg h20] at h;have h1 := (uV hL he).1;have h2 := ih _ _ _ _ _ h;have h3 := de L k;omega
theorem NN {L : List Int} (hL : cA L) {k : Nat} (h : pk L k < 0) : L.length ≤ k := by
 rcases Nat.lt_or_ge k L.length with hl | hl
 ·have := hL (L[k]) (List.getElem_mem hl);rw [Aj (List.getElem?_eq_getElem hl)] at h;omega
 exact hl
section
variable {p : Nat} {L L' : List Int} (E : Fb p L L')
include E
theorem fH : ∀ (d i : Nat), L.length - i = d → i ≤ L.length → (ai L i < L.length ∨ pk L' (p + L.length) = -1) → ai L' (p + i) = p + ai L i := by
 intro d;induction d using Nat.strongRecOn with
 | _ d ih =>
  intro i hd hi hq;rw [jT L i] at hq;rw [jT L i, jT L' (p + i)];by_cases q5 : pk L (aN L i) = 35
  ·obtain ⟨hl, hm⟩ := H8 q5;rw [if_pos q5] at hq ⊢;rw [E.skip hi hl, E.pk hl, if_pos q5];have h1 := ei L i;have h2 : aA oS L (aN L i) ≤ L.length := (gP (Nat.le_of_lt hl)).2;have h3 := de L (aA oS L (aN L i));rw [E.run _ _ rfl (Nat.le_of_lt hl) (by rcases hq with hq | hq; exact .inl (by omega); exact .inr (by rw [hq]; rfl))];exact ih _ (by omega) _ rfl h2 hq
  rw [if_neg q5] at hq ⊢;have hs : aN L i ≤ L.length := pH hi;have e : aN L' (p + i) = p + aN L i := E.run _ i rfl hi (by rcases hq with hq | hq; exact .inl hq; exact .inr (by rw [hq]; rfl));rw [e, if_neg];rcases Nat.lt_or_ge (aN L i) L.length with hl | hl
  ·rw [E.pk hl]; exact q5
  rcases hq with hq | hq;omega;rw [show aN L i = L.length by omega, hq]; decide
theorem i4 {i : Nat} (hi : i ≤ L.length) : aV L' (p + i) = p + aV L i := by
 unfold aV;rcases Nat.lt_or_ge i L.length with hl | hl
 ·rw [E.pk hl];split;exact E.M6 (by decide) (by decide) (by decide) hi;rfl
 have e : i = L.length := (by omega);subst e;rw [mM (Nat.le_refl _), if_neg (by decide : ¬ gQ (-1) = true), if_neg];rcases E.stop with e | e | e <;> rw [e] <;> decide
theorem xD {i : Nat} (hi : i ≤ L.length) : fS L' (p + i) = fS L i := by
 unfold fS;rw [i4 E hi, E.text (j6 hi)]
theorem BH {i : Nat} (hi : i ≤ L.length) : Gg p L (fh L i) (fh L' (p + i)) := by
 intro v j h;have hj := (kg h).2.2.2;unfold fh at h ⊢;rw [xD E hi, i4 E hi];split at h
 ·rename_i hn;rw [if_pos hn];injection h with h; injection h with h3 h4; subst h3 h4;exact ⟨j6 hi, rfl⟩
 cases h
theorem CI {i : Nat} (hi : i < L.length) : Gg p L (fJ L i) (fJ L' (p + i)) := by
 intro v j h;have hj := (vI h).2;refine ⟨hj, ?_⟩;unfold fJ at h ⊢;by_cases wM : pk L (aA kA L (i + 1)) = 39
 ·have hl : aA kA L (i + 1) < L.length := bA (by omega);rw [if_pos wM] at h;rw [show p + i + 1 = p + (i + 1) from rfl, E.run _ (i + 1) rfl hi (.inl hl), E.pk hl, if_pos wM, E.text (Nat.le_of_lt hl)];injection h with h; injection h with h3 h4; subst h3 h4;rfl
 rw [if_neg wM] at h; cases h
theorem Em {k : Nat} (hk : k ≤ L.length) : gQ (pk L' (p + k)) = gQ (pk L k) := by
 rcases Nat.lt_or_ge k L.length with hl | hl
 ·rw [E.pk hl]
 have e : k = L.length := (by omega);subst e;rw [mM (Nat.le_refl _)];rcases E.stop with e | e | e <;> rw [e] <;> decide
theorem wG {a : Nat} (ha : a < L.length) {out : List ak} {cur : Int} (h : bH L a out cur = .ok none) : bH L' (p + a) out cur = .ok none := by
 unfold bH at h ⊢;rw [E.pk ha, show p + a + 1 = p + (a + 1) from rfl, Em E ha];by_cases tf : pk L a = 124
 ·rw [if_pos tf] at h;split at h <;> first | cases h | (injection h with h; cases h)
 rw [if_neg tf] at h ⊢;by_cases ki : pk L a = 91
 ·rw [if_pos ki] at h;split at h <;> first | cases h | (injection h with h; cases h)
 rw [if_neg ki] at h ⊢;by_cases iX : pk L a = 36 ∧ gQ (pk L (a + 1)) = true
 ·rw [if_pos iX] at h;split at h <;> first | cases h | (injection h with h; cases h)
 rw [if_neg iX] at h ⊢;by_cases wM : pk L a = 39
 ·rw [if_pos wM] at h;split at h <;> first | cases h | (injection h with h; cases h)
 rw [if_neg wM] at h ⊢;by_cases wj : pk L a = 92 ∨ bT (pk L a) = true
 ·rw [if_pos wj] at h;split at h
  ·cases h
  split at h <;> first | cases h | (injection h with h; cases h)
 rw [if_neg wj]
theorem IZ (hL : cA L) {a j : Nat} {out o : List ak} {cur c : Int} (h : bH L a out cur = .ok (some ((o, c), j))) : a < j ∧ j ≤ L.length ∧ bH L' (p + a) out cur = .ok (some ((o, c), p + j)) := by
 have haj := (uV hL h).1;have ha : a < L.length := by
  refine bA (fun e => ?_);unfold bH at h;rw [e] at h;simp [bT] at h
 refine ⟨haj, ?_⟩;unfold bH at h ⊢;rw [E.pk ha, show p + a + 1 = p + (a + 1) from rfl, Em E ha];by_cases tf : pk L a = 124
 ·rw [if_pos tf] at h ⊢;by_cases hc : 0 ≤ cur
  ·rw [if_pos hc] at h; cases h
  rw [if_neg hc] at h ⊢;injection h with h; injection h with h; injection h with h1 h2; injection h1 with h1 h3;subst h1 h2 h3;exact ⟨ha, rfl⟩
 rw [if_neg tf] at h ⊢;by_cases ki : pk L a = 91
 ·rw [if_pos ki] at h ⊢;cases hs : bu L 20 a with
  | error e => rw [hs] at h; cases h
  | ok q =>
   obtain ⟨s, k⟩ := q;obtain ⟨_, hk, e1⟩ := x6 E hL 20 _ _ _ hs;rw [hs] at h;rw [e1];simp only at h ⊢;injection h with h; injection h with h; injection h with h1 h2; injection h1 with h1 h3;subst h1 h2 h3;exact ⟨hk, rfl⟩
 rw [if_neg ki] at h ⊢;by_cases iX : pk L a = 36 ∧ gQ (pk L (a + 1)) = true
 ·rw [if_pos iX] at h ⊢;cases hs : fh L (a + 1) with
  | error e => rw [hs] at h; cases h
  | ok q =>
   obtain ⟨s, k⟩ := q;obtain ⟨hk, e1⟩ := BH E ha _ _ hs;rw [hs] at h;rw [e1];simp only at h ⊢;injection h with h; injection h with h; injection h with h1 h2; injection h1 with h1 h3;subst h1 h2 h3;exact ⟨hk, rfl⟩
 rw [if_neg iX] at h ⊢;by_cases wM : pk L a = 39
 ·rw [if_pos wM] at h ⊢;cases hs : fJ L a with
  | error e => rw [hs] at h; cases h
  | ok q =>
   obtain ⟨s, k⟩ := q;obtain ⟨hk, e1⟩ := CI E ha _ _ hs;rw [hs] at h;rw [e1];simp only at h ⊢;injection h with h; injection h with h; injection h with h1 h2; injection h1 with h1 h3;subst h1 h2 h3;exact ⟨hk, rfl⟩
 rw [if_neg wM] at h ⊢;by_cases wj : pk L a = 92 ∨ bT (pk L a) = true
 ·rw [if_pos wj] at h ⊢;cases hs : cC L a with
  | error e => rw [hs] at h; cases h
  | ok q =>
   obtain ⟨x, k⟩ := q;obtain ⟨hk, e1⟩ := uD E _ _ _ hs;rw [hs] at h;rw [e1];simp only at h ⊢;by_cases hr : aU x = true
   ·rw [if_pos hr] at h ⊢;injection h with h; injection h with h; injection h with h1 h2; injection h1 with h1 h3;subst h1 h2 h3;exact ⟨hk, rfl⟩
   rw [if_neg hr] at h; cases h
 rw [if_neg wj] at h; injection h with h; cases h
theorem FC (hL : cA L) : ∀ (f f' i : Nat) (out : List ak) (cur : Int) (v : List ak × Int) (j : Nat), f ≤ f' → i ≤ L.length → bJ L f i out cur = .ok (v, j) → i ≤ j ∧ j ≤ L.length ∧ (j < L.length → bJ L' f' (p + i) out cur = .ok (v, p + j)) := by
 intro f;induction f with
 | zero => intro f' i out cur v j _ _ h; rw [bJ] at h; cases h
 | succ f ih =>
  intro f' i out cur v j hf hi h;obtain ⟨f', rfl⟩ : ∃ g, f' = g + 1 := ⟨f' - 1, by omega⟩;have h0 := de L i;have h1 := nt hi;rw [bJ] at h;cases he : bH L (ai L i) out cur with
  | error e => rw [he] at h; cases h
  | ok q =>
   rw [he] at h;cases q with
   | none =>
    simp only at h;injection h with h; injection h with h3 h4; subst h3 h4;exact ⟨h0, h1, fun hj => by rw [bJ, fH E _ i rfl hi (.inl hj), wG E hj he]⟩
   | some q =>
    obtain ⟨⟨o, c⟩, k⟩ := q;simp only at h;by_cases h20 : 20 < o.length
    ·rw [if_pos h20] at h; cases h
    rw [if_neg h20] at h;obtain ⟨g1, g2, g3⟩ := IZ E hL he;obtain ⟨k1, k2, k3⟩ := ih f' k o c v j (by omega) g2 h;refine ⟨by omega, k2, fun hj => ?_⟩;rw [bJ, fH E _ i rfl hi (.inl (by omega)), g3];simp only;rw [if_neg h20];exact k3 hj
theorem j5 (hL : cA L) {i : Nat} {v : List ak × Int} {j : Nat} (hi : i ≤ L.length) (h : bI L i = .ok (v, j)) : i ≤ j ∧ j ≤ L.length ∧ (j < L.length → bI L' (p + i) = .ok (v, p + j)) :=
  FC E hL _ _ _ _ _ _ _ (by have := E.len; omega) hi h
theorem Hl (hL : cA L) {start : Bool} {a : Nat} {v : List ak × List ak × Int} {j : Nat} (ha : a ≤ L.length) (h : cJ L start a = .ok (v, j)) : a ≤ j ∧ j ≤ L.length ∧ (j < L.length → cJ L' start (p + a) = .ok (v, p + j)) := by
 unfold cJ at h;cases hi : bI L a with
 | error e => rw [hi] at h; cases h
 | ok q =>
  obtain ⟨⟨l, c⟩, j1⟩ := q;obtain ⟨g1, g2, g3⟩ := j5 E hL ha hi;rw [hi] at h;simp only at h;by_cases nS : pk L j1 = 123
  ·have mH : j1 < L.length := bA (by omega);rw [if_pos nS] at h;by_cases hc : 0 ≤ c
   ·rw [if_pos hc] at h; cases h
   rw [if_neg hc] at h;cases hi2 : bI L (j1 + 1) with
   | error e => rw [hi2] at h; cases h
   | ok q =>
    obtain ⟨⟨l2, c2⟩, j2⟩ := q;obtain ⟨k1, k2, k3⟩ := j5 E hL mH hi2;rw [hi2] at h;simp only at h;injection h with h; injection h with h3 h4; subst h3 h4;refine ⟨by omega, k2, fun hj => ?_⟩;unfold cJ;rw [g3 mH];simp only;rw [E.pk mH, if_pos nS, if_neg hc, show p + j1 + 1 = p + (j1 + 1) from rfl, k3 hj]
  rw [if_neg nS] at h;by_cases hs : start = true
  ·rw [if_pos hs] at h; cases h
  rw [if_neg hs] at h;injection h with h; injection h with h3 h4; subst h3 h4;refine ⟨g1, g2, fun hj => ?_⟩;unfold cJ;rw [g3 hj];simp only;rw [E.pk hj, if_neg nS, if_neg hs]
theorem zw (hL : cA L) {i : Nat} {v : List ak × Bool} {j : Nat} (hi : i ≤ L.length) (h : dh L i = .ok (v, j)) : i ≤ j ∧ j ≤ L.length ∧ (j < L.length → dh L' (p + i) = .ok (v, p + j)) := by
 unfold dh at h;by_cases vl : pk L i = 125
 ·have hl : i < L.length := bA (by omega);rw [if_pos vl] at h;cases hi2 : bI L (i + 1) with
  | error e => rw [hi2] at h; cases h
  | ok q =>
   obtain ⟨⟨l, c⟩, k⟩ := q;obtain ⟨k1, k2, k3⟩ := j5 E hL hl hi2;rw [hi2] at h;simp only at h;by_cases hc : 0 ≤ c
   ·rw [if_pos hc] at h; cases h
   rw [if_neg hc] at h;by_cases iX : pk L k = 36
   ·have jP : k < L.length := bA (by omega);rw [if_pos iX] at h;injection h with h; injection h with h3 h4; subst h3 h4;refine ⟨by omega, jP, fun hj => ?_⟩;unfold dh;rw [E.pk hl, if_pos vl, show p + i + 1 = p + (i + 1) from rfl, k3 jP];simp only;rw [if_neg hc, E.pk jP, if_pos iX];rfl
   rw [if_neg iX] at h;injection h with h; injection h with h3 h4; subst h3 h4;refine ⟨by omega, k2, fun hj => ?_⟩;unfold dh;rw [E.pk hl, if_pos vl, show p + i + 1 = p + (i + 1) from rfl, k3 hj];simp only;rw [if_neg hc, E.pk hj, if_neg iX]
 rw [if_neg vl] at h;injection h with h; injection h with h3 h4; subst h3 h4;refine ⟨Nat.le_refl _, hi, fun hj => ?_⟩;unfold dh;rw [E.pk hj, if_neg vl]
theorem Ac (hL : cA L) {i : Nat} {v : bk} {j : Nat} (hi : i ≤ L.length) (h : cH L i = .ok (v, j)) : ai L i ≤ j ∧ j ≤ L.length ∧ (j < L.length → cH L' (p + i) = .ok (v, p + j)) := by
 unfold cH at h;obtain ⟨a0, ha0⟩ : ∃ a0, ai L i = a0 := ⟨_, rfl⟩;rw [ha0] at h;have Ul : a0 ≤ L.length := (by rw [← ha0]; exact nt hi);obtain ⟨a1, mC⟩ : ∃ a1, (if pk L a0 = 94 then a0 + 1 else a0) = a1 := ⟨_, rfl⟩;rw [mC] at h;have U7 : a0 ≤ a1 ∧ a1 ≤ L.length := by
  rw [← mC];split
  ·rename_i kG;have := bA (L := L) (i := a0) (by omega);omega
  exact ⟨Nat.le_refl _, Ul⟩
 cases hh : cJ L (decide (pk L a0 = 94)) a1 with
 | error e => rw [hh] at h; cases h
 | ok q =>
  obtain ⟨⟨b, s, c⟩, j1⟩ := q;obtain ⟨g1, g2, g3⟩ := Hl E hL U7.2 hh;rw [hh] at h;simp only at h;cases ht : dh L j1 with
  | error e => rw [ht] at h; cases h
  | ok q =>
   obtain ⟨⟨a, fin⟩, k⟩ := q;obtain ⟨k1, k2, k3⟩ := zw E hL g2 ht;rw [ht] at h;simp only at h;injection h with h; injection h with h3 h4; subst h3 h4;have h5 := de L k;have h6 := nt k2;refine ⟨by omega, h6, fun hj => ?_⟩;have GQ : a0 < L.length := (by omega);unfold cH;rw [fH E _ i rfl hi (.inl (by omega)), ha0, E.pk GQ, show (if pk L a0 = 94 then p + a0 + 1 else p + a0) = p + a1 by rw [← mC]; split <;> rfl, g3 (by omega)];simp only;rw [k3 (by omega)];simp only;rw [fH E _ k rfl k2 (.inl hj)]
theorem xJ {i : Nat} {d : Int} {j : Nat} (h : dw L i = .ok (d, j)) : i < j ∧ j ≤ L.length ∧ dw L' (p + i) = .ok (d, p + j) := by
 unfold dw at h ⊢;by_cases Gb : pk L i = 62
 ·have hl : i < L.length := bA (by omega);rw [if_pos Gb] at h;injection h with h; injection h with h3 h4; subst h3 h4;rw [E.pk hl, if_pos Gb];exact ⟨by omega, hl, rfl⟩
 rw [if_neg Gb] at h;by_cases Eb : pk L i = 60 ∧ pk L (i + 1) = 62
 ·have hl : i < L.length := bA (by omega);have jP : i + 1 < L.length := bA (by omega);rw [if_pos Eb] at h;injection h with h; injection h with h3 h4; subst h3 h4;rw [E.pk hl, show p + i + 1 = p + (i + 1) from rfl, E.pk jP, if_neg Gb, if_pos Eb];exact ⟨by omega, jP, rfl⟩
 rw [if_neg Eb] at h;cases hn : aW L i 60 with
 | error e => rw [hn] at h; cases h
 | ok k =>
  obtain ⟨hk, e1⟩ := jd E hn (by decide);obtain ⟨rfl, hp⟩ := fF hn;have hl : i < L.length := hk;rw [hn] at h;simp only at h;injection h with h; injection h with h3 h4; subst h3 h4;have c1 := E.is (k := i + 1) hk (r := 62) (by decide) (by decide) (by decide);rw [E.pk hl, if_neg Gb, show p + i + 1 = p + (i + 1) from rfl, if_neg (fun x => Eb ⟨x.1, c1.1 x.2⟩), e1];exact ⟨by omega, hk, rfl⟩
theorem Im (hL : cA L) {i : Nat} {v : ay} {j : Nat} (hi : i ≤ L.length) (h : gA L i = .ok (v, j)) : i ≤ j ∧ j ≤ L.length ∧ (j < L.length → gA L' (p + i) = .ok (v, p + j)) := by
 unfold gA at h;cases hs : cH L i with
 | error e => rw [hs] at h; cases h
 | ok q =>
  obtain ⟨l, a⟩ := q;obtain ⟨g1, g2, g3⟩ := Ac E hL hi hs;rw [hs] at h;simp only at h;cases ha : dw L a with
  | error e => rw [ha] at h; cases h
  | ok q =>
   obtain ⟨d, k⟩ := q;obtain ⟨k1, k2, k3⟩ := xJ E ha;rw [ha] at h;simp only at h;cases Jq : cH L k with
   | error e => rw [Jq] at h; cases h
   | ok q =>
    obtain ⟨r, m⟩ := q;obtain ⟨m1, m2, m3⟩ := Ac E hL k2 Jq;rw [Jq] at h;simp only at h;have h7 := de L i;have h8 := de L k;by_cases hw : dm ⟨2, cS, [], d, l, r⟩ ≠ 0
    ·rw [if_pos hw] at h; cases h
    rw [if_neg hw] at h;injection h with h; injection h with h3 h4; subst h3 h4;refine ⟨by omega, m2, fun hj => ?_⟩;unfold gA;rw [g3 (by omega)];simp only;rw [k3];simp only;rw [m3 hj];simp only;rw [if_neg hw]
theorem Ia (hL : cA L) {i : Nat} {v : ay} {j : Nat} (h : iz L i = .ok (v, j)) : i ≤ j ∧ j ≤ L.length ∧ (j < L.length → iz L' (p + i) = .ok (v, p + j)) := by
 unfold iz at h;cases hn : aW L (i + 1) 58 with
 | error e => rw [hn] at h; cases h
 | ok a =>
  obtain ⟨ha, e1⟩ := jd E hn (by decide);have h0 := (fF hn).1;rw [hn] at h;simp only at h;have h5 := de L a;have h6 := nt ha;by_cases ki : pk L (ai L a) = 91
  ·have hl : ai L a < L.length := bA (by omega);rw [if_pos ki] at h;cases hs : bu L 20 (ai L a) with
   | error e => rw [hs] at h; cases h
   | ok q =>
    obtain ⟨s, k⟩ := q;obtain ⟨k0, k1, k2⟩ := x6 E hL 20 _ _ _ hs;rw [hs] at h;simp only at h;injection h with h; injection h with h3 h4; subst h3 h4;refine ⟨by omega, k1, fun hj => ?_⟩;unfold iz;rw [show p + i + 1 = p + (i + 1) from rfl, e1];simp only;rw [fH E _ a rfl ha (.inl hl), E.pk hl, if_pos ki, k2]
  rw [if_neg ki] at h;by_cases hb : ku (fS L (ai L a)) = true
  ·rw [if_pos hb] at h;injection h with h; injection h with h3 h4; subst h3 h4;have h7 := uB L (ai L a);refine ⟨by omega, j6 h6, fun hj => ?_⟩;have hl : ai L a < L.length := (by omega);unfold iz;rw [show p + i + 1 = p + (i + 1) from rfl, e1];simp only;rw [fH E _ a rfl ha (.inl hl), E.pk hl, if_neg ki, xD E h6, if_pos hb, i4 E h6]
  rw [if_neg hb] at h; cases h
theorem Kq (hL : cA L) {i : Nat} {v : ay} {j : Nat} (hi : i < L.length) (h : mT L i = .ok (v, j)) : i ≤ j ∧ j ≤ L.length ∧ (j < L.length → mT L' (p + i) = .ok (v, p + j)) := by
 unfold mT at h;cases hn : fh L (i + 1) with
 | error e => rw [hn] at h; cases h
 | ok q =>
  obtain ⟨s, a⟩ := q;obtain ⟨ha, e1⟩ := BH E hi _ _ hn;have h0 := (kg hn).1;rw [hn] at h;simp only at h;cases hq : aW L (ai L a) 61 with
  | error e => rw [hq] at h; cases h
  | ok k =>
   obtain ⟨hk, e2⟩ := jd E hq (by decide);have h1 := (fF hq).1;have h2 := de L a;rw [hq] at h;simp only at h;cases hs : bu L 20 (ai L k) with
   | error e => rw [hs] at h; cases h
   | ok q =>
    obtain ⟨t, m⟩ := q;obtain ⟨k0, k1, k2⟩ := x6 E hL 20 _ _ _ hs;have h4 := de L k;rw [hs] at h;simp only at h;injection h with h; injection h with h3 h5; subst h3 h5;refine ⟨by omega, k1, fun hj => ?_⟩;unfold mT;rw [show p + i + 1 = p + (i + 1) from rfl, e1];simp only;rw [fH E _ a rfl ha (.inl (by omega)), e2];simp only;rw [fH E _ k rfl hk (.inl (by omega)), k2]
end
theorem BD {L : List Int} (hL : cA L) {i : Nat} {v : bk} {j : Nat} (iX : pk L i = 36) (h : cH L i = .ok (v, j)) : j = i ∨ ai L (aV L (i + 1)) ≤ j := by
 have E : Fb 0 L L := ⟨fun k _ => by rw [Nat.zero_add], .inr (.inr (by rw [Nat.zero_add]; exact mM (Nat.le_refl _)))⟩;have e0 : ai L i = i := qP (by rw [iX]; decide) (by rw [iX]; decide);have hl : i < L.length := bA (by omega);unfold cH at h;rw [e0, if_neg (by rw [iX]; decide), show decide (pk L i = 94) = false by rw [iX]; decide] at h;unfold cJ at h;cases hi : bI L i with
 | error e => rw [hi] at h; cases h
 | ok q =>
  obtain ⟨⟨l, c⟩, j1⟩ := q;have V5 := j5 E hL (Nat.le_of_lt hl) hi;have key : j1 = i ∨ ai L (aV L (i + 1)) ≤ j1 := by
   unfold bI at hi;rw [bJ, e0] at hi;unfold bH at hi;rw [if_neg (by rw [iX]; decide), if_neg (by rw [iX]; decide)] at hi;by_cases hc : pk L i = 36 ∧ gQ (pk L (i + 1)) = true
   ·rw [if_pos hc] at hi;cases hs : fh L (i + 1) with
    | error e => rw [hs] at hi; cases hi
    | ok q =>
     obtain ⟨s, k⟩ := q;have hk := (kg hs).2.2.2;rw [hs] at hi;simp only at hi;split at hi
     ·cases hi
     have := IN hL _ _ _ _ _ _ hi;rw [hk] at this;exact .inr this
   rw [if_neg hc, if_neg (by rw [iX]; decide), if_neg (by rw [iX]; decide)] at hi;simp only at hi;injection hi with hi; injection hi with h3 h4;exact .inl h4.symm
  rw [hi] at h;simp only at h;rcases key with rfl | key
  ·rw [if_neg (by rw [iX]; decide), if_neg (by decide)] at h;simp only at h;unfold dh at h;rw [if_neg (by rw [iX]; decide)] at h;simp only at h;injection h with h; injection h with h3 h4;rw [e0] at h4;exact .inl h4.symm
  right;have up : ∀ (r : jz (List ak × List ak × Int)), (match r with | .error e => Except.error e | .ok ((b, s, c), j) => match dh L j with | .error e => .error e | .ok ((a, fin), k) => .ok ((⟨false, fin, b, s, a, c⟩ : bk), ai L k)) = .ok (v, j) → (∀ x k, r = .ok (x, k) → j1 ≤ k ∧ k ≤ L.length) → j1 ≤ j := by
   intro r hr hk;cases r with
   | error e => cases hr
   | ok q =>
    obtain ⟨⟨b, s, c⟩, k⟩ := q;obtain ⟨fW, hk2⟩ := hk _ _ rfl;simp only at hr;cases ht : dh L k with
    | error e => rw [ht] at hr; cases hr
    | ok q =>
     obtain ⟨⟨a, fin⟩, m⟩ := q;have hm := (zw E hL hk2 ht).1;rw [ht] at hr;simp only at hr;injection hr with hr; injection hr with h3 h4;have := de L m;omega
  refine Nat.le_trans key (up _ h ?_);intro x k hk;split at hk
  ·rename_i nS;have mH : j1 < L.length := bA (by omega);split at hk
   ·cases hk
   cases hi2 : bI L (j1 + 1) with
   | error e => rw [hi2] at hk; cases hk
   | ok q =>
    obtain ⟨⟨l2, c2⟩, j2⟩ := q;have := j5 E hL mH hi2;rw [hi2] at hk;simp only at hk;injection hk with hk; injection hk with h3 h4;omega
  rw [if_neg (by decide)] at hk;injection hk with hk; injection hk with h3 h4;omega
theorem xR {p : Nat} {L L' : List Int} (E : Fb p L L') (hL : cA L) {i : Nat} {v : ay} {j : Nat} (hi : i ≤ L.length) (h : gI L i = .ok (v, j)) : i ≤ j ∧ j ≤ L.length ∧ (j < L.length → gI L' (p + i) = .ok (v, p + j)) := by
 unfold gI at h;by_cases oe : pk L i = 58
 ·rw [if_pos oe] at h;have hl : i < L.length := bA (by omega);obtain ⟨g1, g2, g3⟩ := Ia E hL h;refine ⟨g1, g2, fun hj => ?_⟩;unfold gI;rw [E.pk hl, if_pos oe];exact g3 hj
 rw [if_neg oe] at h;by_cases iX : pk L i = 36 ∧ pk L (ai L (aV L (i + 1))) = 61
 ·rw [if_pos iX] at h;have hl : i < L.length := bA (by omega);have jP : ai L (aV L (i + 1)) < L.length := bA (by omega);obtain ⟨g1, g2, g3⟩ := Kq E hL hl h;refine ⟨g1, g2, fun hj => ?_⟩;unfold gI;rw [E.pk hl, if_neg oe, show p + i + 1 = p + (i + 1) from rfl, i4 E hl, fH E _ _ rfl (j6 hl) (.inl jP), E.pk jP, if_pos iX];exact g3 hj
 rw [if_neg iX] at h;obtain ⟨g1, g2, g3⟩ := Im E hL hi h;refine ⟨g1, g2, fun hj => ?_⟩;have hl : i < L.length := (by omega);unfold gI;rw [E.pk hl, if_neg oe, if_neg];exact g3 hj;rintro ⟨x1, x2⟩;rw [show p + i + 1 = p + (i + 1) from rfl, i4 E hl] at x2;rcases Nat.lt_or_ge (ai L (aV L (i + 1))) L.length with hs | hs
 ·rw [fH E _ _ rfl (j6 hl) (.inl hs), E.pk hs] at x2;exact iX ⟨x1, x2⟩
 unfold gA at h;cases OS : cH L i with
 | error e => rw [OS] at h; cases h
 | ok q =>
  obtain ⟨l, a⟩ := q;rw [OS] at h;simp only at h;cases ha : dw L a with
  | error e => rw [ha] at h; cases h
  | ok q =>
   obtain ⟨d, k⟩ := q;have hk := (xJ E ha);rcases BD hL x1 OS with rfl | hge
   ·unfold dw at ha;rw [if_neg (by omega), if_neg (fun x => by have := x.1; omega), rj (by omega)] at ha;cases ha
   omega
theorem Ik {L : List Int} (hL : cA L) {i : Nat} {v : ay} {j : Nat} (hi : i ≤ L.length) (h : gI L i = .ok (v, j)) : i ≤ j ∧ j ≤ L.length := by
 have E : Fb 0 L L := ⟨fun k _ => by rw [Nat.zero_add], .inr (.inr (by rw [Nat.zero_add]; exact mM (Nat.le_refl _)))⟩;exact ⟨(xR E hL hi h).1, (xR E hL hi h).2.1⟩
end Go.Proofs.YthnhbcohfoodlaaGreatDoor
