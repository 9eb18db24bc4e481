/- RulesEmb2 -/
import Derived.Test.YthnhbcohfoodlaaGreatDoorZq17
namespace Go.Proofs.YthnhbcohfoodlaaGreatDoor
open Go.RowKit
theorem Cc {L : List Int} {i : Nat} (h1 : jq (pk L i) = false) (h2 : pk L i ≠ 35) : aj L i = i := by
 have e : aG L i = i := bw (fun _ => h1);rw [kj, e, if_neg h2]
theorem DK {L : List Int} (hL : bY L) : ∀ (f i : Nat) (out : List aE) (cur : Int) (v : List aE × Int) (j : Nat), cg L f i out cur = .ok (v, j) → aj L i ≤ j := by
 intro f;induction f with
 | zero => intro i out cur v j h; rw [cg] at h; cases h
 | succ f ih =>
  intro i out cur v j h;rw [cg] at h;cases he : bq L (aj L i) out cur with
  | error e => rw [he] at h; cases h
  | ok q =>
   rw [he] at h;cases q with
   | none => simp only at h; injection h with h; injection h with h1 h2; omega
   | some q =>
    obtain ⟨⟨o, c⟩, k⟩ := q;simp only at h;by_cases qq : 20 < o.length
    ·rw [if_pos qq] at h; cases h
    rw [if_neg qq] at h;have h1 := (nW hL he).1;have h2 := ih _ _ _ _ _ h;have h3 := b7 L k;omega
section
variable {p : Nat} {L L' : List Int} (E : Cl p L L')
include E
theorem fh : ∀ (d i : Nat), L.length - i = d → i ≤ L.length → (aj L i < L.length ∨ pk L' (p + L.length) = -1) → aj L' (p + i) = p + aj L i := by
 intro d;induction d using Nat.strongRecOn with
 | _ d ih =>
  intro i hd hi hq;rw [kj L i] at hq;rw [kj L i, kj L' (p + i)];by_cases kZ : pk L (aG L i) = 35
  ·obtain ⟨hl, hm⟩ := vU kZ;rw [if_pos kZ] at hq ⊢;rw [E.skip hi hl, E.pk hl, if_pos kZ];have h1 := cL L i;have h2 : aq jx L (aG L i) ≤ L.length := (dA (Nat.le_of_lt hl)).2;have h3 := b7 L (aq jx L (aG L i));rw [E.run _ _ rfl (Nat.le_of_lt hl) (by rcases hq with hq | hq; exact .inl (by omega); exact .inr (by rw [hq]; rfl))];exact ih _ (by omega) _ rfl h2 hq
  rw [if_neg kZ] at hq ⊢;have hs : aG L i ≤ L.length := jY hi;have e : aG L' (p + i) = p + aG L i := E.run _ i rfl hi (by rcases hq with hq | hq; exact .inl hq; exact .inr (by rw [hq]; rfl));rw [e, if_neg];rcases Nat.lt_or_ge (aG L i) L.length with hl | hl
  ·rw [E.pk hl]; exact kZ
  rcases hq with hq | hq;omega;rw [show aG L i = L.length by omega, hq]; decide
theorem ir {i : Nat} (hi : i ≤ L.length) : aI L' (p + i) = p + aI L i := by
 unfold aI;rcases Nat.lt_or_ge i L.length with hl | hl
 ·rw [E.pk hl];split;exact E.IB (by decide) (by decide) (by decide) hi;rfl
 have e : i = L.length := (by omega);subst e;rw [lP (Nat.le_refl _), if_neg (by decide : ¬ eN (-1) = true), if_neg];rcases E.stop with e | e | e <;> rw [e] <;> decide
theorem uR {i : Nat} (hi : i ≤ L.length) : cI L' (p + i) = cI L i := by
 unfold cI;rw [ir E hi, E.text (dZ hi)]
theorem xy {i : Nat} (hi : i ≤ L.length) : Cv p L (cQ L i) (cQ L' (p + i)) := by
 intro v j h;have hj := (jk h).2.2.2;unfold cQ at h ⊢;rw [uR E hi, ir E hi];split at h
 ·rename_i hn;rw [if_pos hn];injection h with h; injection h with h3 h4; subst h3 h4;exact ⟨dZ hi, rfl⟩
 cases h
theorem zu {i : Nat} (hi : i < L.length) : Cv p L (eT L i) (eT L' (p + i)) := by
 intro v j h;have hj := (sA h).2;refine ⟨hj, ?_⟩;unfold eT at h ⊢;by_cases qa : pk L (aq gP L (i + 1)) = 39
 ·have hl : aq gP L (i + 1) < L.length := aS (by omega);rw [if_pos qa] at h;rw [show p + i + 1 = p + (i + 1) from rfl, E.run _ (i + 1) rfl hi (.inl hl), E.pk hl, if_pos qa, E.text (Nat.le_of_lt hl)];injection h with h; injection h with h3 h4; subst h3 h4;rfl
 rw [if_neg qa] at h; cases h
theorem AV {k : Nat} (hk : k ≤ L.length) : eN (pk L' (p + k)) = eN (pk L k) := by
 rcases Nat.lt_or_ge k L.length with hl | hl
 ·rw [E.pk hl]
 have e : k = L.length := (by omega);subst e;rw [lP (Nat.le_refl _)];rcases E.stop with e | e | e <;> rw [e] <;> decide
theorem tJ {a : Nat} (ha : a < L.length) {out : List aE} {cur : Int} (h : bq L a out cur = .ok none) : bq L' (p + a) out cur = .ok none := by
 unfold bq at h ⊢;rw [E.pk ha, show p + a + 1 = p + (a + 1) from rfl, AV E ha];by_cases kk : pk L a = 124
 ·rw [if_pos kk] at h;split at h <;> first | cases h | (injection h with h; cases h)
 rw [if_neg kk] at h ⊢;by_cases eU : pk L a = 91
 ·rw [if_pos eU] at h;split at h <;> first | cases h | (injection h with h; cases h)
 rw [if_neg eU] at h ⊢;by_cases fc : pk L a = 36 ∧ eN (pk L (a + 1)) = true
 ·rw [if_pos fc] at h;split at h <;> first | cases h | (injection h with h; cases h)
 rw [if_neg fc] at h ⊢;by_cases qa : pk L a = 39
 ·rw [if_pos qa] at h;split at h <;> first | cases h | (injection h with h; cases h)
 rw [if_neg qa] at h ⊢;by_cases kY : pk L a = 92 ∨ bL (pk L a) = true
 ·rw [if_pos kY] at h;split at h
  ·cases h
  split at h <;> first | cases h | (injection h with h; cases h)
 rw [if_neg kY]
theorem DD (hL : bY L) {a j : Nat} {out o : List aE} {cur c : Int} (h : bq L a out cur = .ok (some ((o, c), j))) : a < j ∧ j ≤ L.length ∧ bq L' (p + a) out cur = .ok (some ((o, c), p + j)) := by
 have CU := (nW hL h).1;have ha : a < L.length := by
  refine aS (fun e => ?_);unfold bq at h;rw [e] at h;simp [bL] at h
 refine ⟨CU, ?_⟩;unfold bq at h ⊢;rw [E.pk ha, show p + a + 1 = p + (a + 1) from rfl, AV E ha];by_cases kk : pk L a = 124
 ·rw [if_pos kk] at h ⊢;by_cases hc : 0 ≤ cur
  ·rw [if_pos hc] at h; cases h
  rw [if_neg hc] at h ⊢;injection h with h; injection h with h; injection h with h1 h2; injection h1 with h1 h3;subst h1 h2 h3;exact ⟨ha, rfl⟩
 rw [if_neg kk] at h ⊢;by_cases eU : pk L a = 91
 ·rw [if_pos eU] at h ⊢;cases hs : aR L 20 a with
  | error e => rw [hs] at h; cases h
  | ok q =>
   obtain ⟨s, k⟩ := q;obtain ⟨_, hk, e1⟩ := wH E hL 20 _ _ _ hs;rw [hs] at h;rw [e1];simp only at h ⊢;injection h with h; injection h with h; injection h with h1 h2; injection h1 with h1 h3;subst h1 h2 h3;exact ⟨hk, rfl⟩
 rw [if_neg eU] at h ⊢;by_cases fc : pk L a = 36 ∧ eN (pk L (a + 1)) = true
 ·rw [if_pos fc] at h ⊢;cases hs : cQ L (a + 1) with
  | error e => rw [hs] at h; cases h
  | ok q =>
   obtain ⟨s, k⟩ := q;obtain ⟨hk, e1⟩ := xy E ha _ _ hs;rw [hs] at h;rw [e1];simp only at h ⊢;injection h with h; injection h with h; injection h with h1 h2; injection h1 with h1 h3;subst h1 h2 h3;exact ⟨hk, rfl⟩
 rw [if_neg fc] at h ⊢;by_cases qa : pk L a = 39
 ·rw [if_pos qa] at h ⊢;cases hs : eT L a with
  | error e => rw [hs] at h; cases h
  | ok q =>
   obtain ⟨s, k⟩ := q;obtain ⟨hk, e1⟩ := zu E ha _ _ hs;rw [hs] at h;rw [e1];simp only at h ⊢;injection h with h; injection h with h; injection h with h1 h2; injection h1 with h1 h3;subst h1 h2 h3;exact ⟨hk, rfl⟩
 rw [if_neg qa] at h ⊢;by_cases kY : pk L a = 92 ∨ bL (pk L a) = true
 ·rw [if_pos kY] at h ⊢;cases hs : bU L a with
  | error e => rw [hs] at h; cases h
  | ok q =>
   obtain ⟨x, k⟩ := q;obtain ⟨hk, e1⟩ := rT E _ _ _ hs;rw [hs] at h;rw [e1];simp only at h ⊢;by_cases hr : bT x = true
   ·rw [if_pos hr] at h ⊢;injection h with h; injection h with h; injection h with h1 h2; injection h1 with h1 h3;subst h1 h2 h3;exact ⟨hk, rfl⟩
   rw [if_neg hr] at h; cases h
 rw [if_neg kY] at h; injection h with h; cases h
theorem CG (hL : bY L) : ∀ (f f' i : Nat) (out : List aE) (cur : Int) (v : List aE × Int) (j : Nat), f ≤ f' → i ≤ L.length → cg L f i out cur = .ok (v, j) → i ≤ j ∧ j ≤ L.length ∧ (j < L.length → cg L' f' (p + i) out cur = .ok (v, p + j)) := by
 intro f;induction f with
 | zero => intro f' i out cur v j _ _ h; rw [cg] at h; cases h
 | succ f ih =>
  intro f' i out cur v j hf hi h;obtain ⟨f', rfl⟩ : ∃ g, f' = g + 1 := ⟨f' - 1, by omega⟩;have h0 := b7 L i;have h1 := gn hi;rw [cg] at h;cases he : bq L (aj L i) out cur with
  | error e => rw [he] at h; cases h
  | ok q =>
   rw [he] at h;cases q with
   | none =>
    simp only at h;injection h with h; injection h with h3 h4; subst h3 h4;exact ⟨h0, h1, fun hj => by rw [cg, fh E _ i rfl hi (.inl hj), tJ E hj he]⟩
   | some q =>
    obtain ⟨⟨o, c⟩, k⟩ := q;simp only at h;by_cases qq : 20 < o.length
    ·rw [if_pos qq] at h; cases h
    rw [if_neg qq] at h;obtain ⟨g1, g2, g3⟩ := DD E hL he;obtain ⟨k1, k2, k3⟩ := ih f' k o c v j (by omega) g2 h;refine ⟨by omega, k2, fun hj => ?_⟩;rw [cg, fh E _ i rfl hi (.inl (by omega)), g3];simp only;rw [if_neg qq];exact k3 hj
theorem ja (hL : bY L) {i : Nat} {v : List aE × Int} {j : Nat} (hi : i ≤ L.length) (h : bA L i = .ok (v, j)) : i ≤ j ∧ j ≤ L.length ∧ (j < L.length → bA L' (p + i) = .ok (v, p + j)) :=
  CG E hL _ _ _ _ _ _ _ (by have := E.len; omega) hi h
theorem Eu (hL : bY L) {start : Bool} {a : Nat} {v : List aE × List aE × Int} {j : Nat} (ha : a ≤ L.length) (h : cM L start a = .ok (v, j)) : a ≤ j ∧ j ≤ L.length ∧ (j < L.length → cM L' start (p + a) = .ok (v, p + j)) := by
 unfold cM at h;cases hi : bA L a with
 | error e => rw [hi] at h; cases h
 | ok q =>
  obtain ⟨⟨l, c⟩, j1⟩ := q;obtain ⟨g1, g2, g3⟩ := ja E hL ha hi;rw [hi] at h;simp only at h;by_cases jz : pk L j1 = 123
  ·have oJ : j1 < L.length := aS (by omega);rw [if_pos jz] at h;by_cases hc : 0 ≤ c
   ·rw [if_pos hc] at h; cases h
   rw [if_neg hc] at h;cases hi2 : bA L (j1 + 1) with
   | error e => rw [hi2] at h; cases h
   | ok q =>
    obtain ⟨⟨l2, c2⟩, j2⟩ := q;obtain ⟨k1, k2, k3⟩ := ja E hL oJ hi2;rw [hi2] at h;simp only at h;injection h with h; injection h with h3 h4; subst h3 h4;refine ⟨by omega, k2, fun hj => ?_⟩;unfold cM;rw [g3 oJ];simp only;rw [E.pk oJ, if_pos jz, if_neg hc, show p + j1 + 1 = p + (j1 + 1) from rfl, k3 hj]
  rw [if_neg jz] at h;by_cases hs : start = true
  ·rw [if_pos hs] at h; cases h
  rw [if_neg hs] at h;injection h with h; injection h with h3 h4; subst h3 h4;refine ⟨g1, g2, fun hj => ?_⟩;unfold cM;rw [g3 hj];simp only;rw [E.pk hj, if_neg jz, if_neg hs]
theorem xz (hL : bY L) {i : Nat} {v : List aE × Bool} {j : Nat} (hi : i ≤ L.length) (h : dx L i = .ok (v, j)) : i ≤ j ∧ j ≤ L.length ∧ (j < L.length → dx L' (p + i) = .ok (v, p + j)) := by
 unfold dx at h;by_cases kW : pk L i = 125
 ·have hl : i < L.length := aS (by omega);rw [if_pos kW] at h;cases hi2 : bA L (i + 1) with
  | error e => rw [hi2] at h; cases h
  | ok q =>
   obtain ⟨⟨l, c⟩, k⟩ := q;obtain ⟨k1, k2, k3⟩ := ja E hL hl hi2;rw [hi2] at h;simp only at h;by_cases hc : 0 ≤ c
   ·rw [if_pos hc] at h; cases h
   rw [if_neg hc] at h;by_cases fc : pk L k = 36
   ·have o7 : k < L.length := aS (by omega);rw [if_pos fc] at h;injection h with h; injection h with h3 h4; subst h3 h4;refine ⟨by omega, o7, fun hj => ?_⟩;unfold dx;rw [E.pk hl, if_pos kW, show p + i + 1 = p + (i + 1) from rfl, k3 o7];simp only;rw [if_neg hc, E.pk o7, if_pos fc];rfl
   rw [if_neg fc] at h;injection h with h; injection h with h3 h4; subst h3 h4;refine ⟨by omega, k2, fun hj => ?_⟩;unfold dx;rw [E.pk hl, if_pos kW, show p + i + 1 = p + (i + 1) from rfl, k3 hj];simp only;rw [if_neg hc, E.pk hj, if_neg fc]
 rw [if_neg kW] at h;injection h with h; injection h with h3 h4; subst h3 h4;refine ⟨Nat.le_refl _, hi, fun hj => ?_⟩;unfold dx;rw [E.pk hj, if_neg kW]
theorem yb (hL : bY L) {i : Nat} {v : bp} {j : Nat} (hi : i ≤ L.length) (h : cj L i = .ok (v, j)) : aj L i ≤ j ∧ j ≤ L.length ∧ (j < L.length → cj L' (p + i) = .ok (v, p + j)) := by
 unfold cj at h;obtain ⟨a0, ha0⟩ : ∃ a0, aj L i = a0 := ⟨_, rfl⟩;rw [ha0] at h;have P8 : a0 ≤ L.length := (by rw [← ha0]; exact gn hi);obtain ⟨a1, kU⟩ : ∃ a1, (if pk L a0 = 94 then a0 + 1 else a0) = a1 := ⟨_, rfl⟩;rw [kU] at h;have P3 : a0 ≤ a1 ∧ a1 ≤ L.length := by
  rw [← kU];split
  ·rename_i gR;have := aS (L := L) (i := a0) (by omega);omega
  exact ⟨Nat.le_refl _, P8⟩
 cases hh : cM L (decide (pk L a0 = 94)) a1 with
 | error e => rw [hh] at h; cases h
 | ok q =>
  obtain ⟨⟨b, s, c⟩, j1⟩ := q;obtain ⟨g1, g2, g3⟩ := Eu E hL P3.2 hh;rw [hh] at h;simp only at h;cases ht : dx L j1 with
  | error e => rw [ht] at h; cases h
  | ok q =>
   obtain ⟨⟨a, fin⟩, k⟩ := q;obtain ⟨k1, k2, k3⟩ := xz E hL g2 ht;rw [ht] at h;simp only at h;injection h with h; injection h with h3 h4; subst h3 h4;have h5 := b7 L k;have h6 := gn k2;refine ⟨by omega, h6, fun hj => ?_⟩;have Nc : a0 < L.length := (by omega);unfold cj;rw [fh E _ i rfl hi (.inl (by omega)), ha0, E.pk Nc, show (if pk L a0 = 94 then p + a0 + 1 else p + a0) = p + a1 by rw [← kU]; split <;> rfl, g3 (by omega)];simp only;rw [k3 (by omega)];simp only;rw [fh E _ k rfl k2 (.inl hj)]
theorem uy {i : Nat} {d : Int} {j : Nat} (h : cl L i = .ok (d, j)) : i < j ∧ j ≤ L.length ∧ cl L' (p + i) = .ok (d, p + j) := by
 unfold cl at h ⊢;by_cases nU : pk L i = 62
 ·have hl : i < L.length := aS (by omega);rw [if_pos nU] at h;injection h with h; injection h with h3 h4; subst h3 h4;rw [E.pk hl, if_pos nU];exact ⟨by omega, hl, rfl⟩
 rw [if_neg nU] at h;by_cases o9 : pk L i = 60 ∧ pk L (i + 1) = 62
 ·have hl : i < L.length := aS (by omega);have o7 : i + 1 < L.length := aS (by omega);rw [if_pos o9] at h;injection h with h; injection h with h3 h4; subst h3 h4;rw [E.pk hl, show p + i + 1 = p + (i + 1) from rfl, E.pk o7, if_neg nU, if_pos o9];exact ⟨by omega, o7, rfl⟩
 rw [if_neg o9] at h;cases hn : aH L i 60 with
 | error e => rw [hn] at h; cases h
 | ok k =>
  obtain ⟨hk, e1⟩ := ie E hn (by decide);obtain ⟨rfl, hp⟩ := dX hn;have hl : i < L.length := hk;rw [hn] at h;simp only at h;injection h with h; injection h with h3 h4; subst h3 h4;have c1 := E.is (k := i + 1) hk (r := 62) (by decide) (by decide) (by decide);rw [E.pk hl, if_neg nU, show p + i + 1 = p + (i + 1) from rfl, if_neg (fun x => o9 ⟨x.1, c1.1 x.2⟩), e1];exact ⟨by omega, hk, rfl⟩
theorem DC (hL : bY L) {i : Nat} {v : aZ} {j : Nat} (hi : i ≤ L.length) (h : fB L i = .ok (v, j)) : i ≤ j ∧ j ≤ L.length ∧ (j < L.length → fB L' (p + i) = .ok (v, p + j)) := by
 unfold fB at h;cases hs : cj L i with
 | error e => rw [hs] at h; cases h
 | ok q =>
  obtain ⟨l, a⟩ := q;obtain ⟨g1, g2, g3⟩ := yb E hL hi hs;rw [hs] at h;simp only at h;cases ha : cl L a with
  | error e => rw [ha] at h; cases h
  | ok q =>
   obtain ⟨d, k⟩ := q;obtain ⟨k1, k2, k3⟩ := uy E ha;rw [ha] at h;simp only at h;cases zX : cj L k with
   | error e => rw [zX] at h; cases h
   | ok q =>
    obtain ⟨r, m⟩ := q;obtain ⟨m1, m2, m3⟩ := yb E hL k2 zX;rw [zX] at h;simp only at h;have h7 := b7 L i;have h8 := b7 L k;by_cases hw : gf ⟨2, bF, [], d, l, r⟩ ≠ 0
    ·rw [if_pos hw] at h; cases h
    rw [if_neg hw] at h;injection h with h; injection h with h3 h4; subst h3 h4;refine ⟨by omega, m2, fun hj => ?_⟩;unfold fB;rw [g3 (by omega)];simp only;rw [k3];simp only;rw [m3 hj];simp only;rw [if_neg hw]
theorem DN (hL : bY L) {i : Nat} {v : aZ} {j : Nat} (h : fo L i = .ok (v, j)) : i ≤ j ∧ j ≤ L.length ∧ (j < L.length → fo L' (p + i) = .ok (v, p + j)) := by
 unfold fo at h;cases hn : aH L (i + 1) 58 with
 | error e => rw [hn] at h; cases h
 | ok a =>
  obtain ⟨ha, e1⟩ := ie E hn (by decide);have h0 := (dX hn).1;rw [hn] at h;simp only at h;have h5 := b7 L a;have h6 := gn ha;by_cases eU : pk L (aj L a) = 91
  ·have hl : aj L a < L.length := aS (by omega);rw [if_pos eU] at h;cases hs : aR L 20 (aj L a) with
   | error e => rw [hs] at h; cases h
   | ok q =>
    obtain ⟨s, k⟩ := q;obtain ⟨k0, k1, k2⟩ := wH E hL 20 _ _ _ hs;rw [hs] at h;simp only at h;injection h with h; injection h with h3 h4; subst h3 h4;refine ⟨by omega, k1, fun hj => ?_⟩;unfold fo;rw [show p + i + 1 = p + (i + 1) from rfl, e1];simp only;rw [fh E _ a rfl ha (.inl hl), E.pk hl, if_pos eU, k2]
  rw [if_neg eU] at h;by_cases hb : gm (cI L (aj L a)) = true
  ·rw [if_pos hb] at h;injection h with h; injection h with h3 h4; subst h3 h4;have h7 := ri L (aj L a);refine ⟨by omega, dZ h6, fun hj => ?_⟩;have hl : aj L a < L.length := (by omega);unfold fo;rw [show p + i + 1 = p + (i + 1) from rfl, e1];simp only;rw [fh E _ a rfl ha (.inl hl), E.pk hl, if_neg eU, uR E h6, if_pos hb, ir E h6]
  rw [if_neg hb] at h; cases h
theorem Fk (hL : bY L) {i : Nat} {v : aZ} {j : Nat} (hi : i < L.length) (h : jt L i = .ok (v, j)) : i ≤ j ∧ j ≤ L.length ∧ (j < L.length → jt L' (p + i) = .ok (v, p + j)) := by
 unfold jt at h;cases hn : cQ L (i + 1) with
 | error e => rw [hn] at h; cases h
 | ok q =>
  obtain ⟨s, a⟩ := q;obtain ⟨ha, e1⟩ := xy E hi _ _ hn;have h0 := (jk hn).1;rw [hn] at h;simp only at h;cases hq : aH L (aj L a) 61 with
  | error e => rw [hq] at h; cases h
  | ok k =>
   obtain ⟨hk, e2⟩ := ie E hq (by decide);have h1 := (dX hq).1;have h2 := b7 L a;rw [hq] at h;simp only at h;cases hs : aR L 20 (aj L k) with
   | error e => rw [hs] at h; cases h
   | ok q =>
    obtain ⟨t, m⟩ := q;obtain ⟨k0, k1, k2⟩ := wH E hL 20 _ _ _ hs;have h4 := b7 L k;rw [hs] at h;simp only at h;injection h with h; injection h with h3 h5; subst h3 h5;refine ⟨by omega, k1, fun hj => ?_⟩;unfold jt;rw [show p + i + 1 = p + (i + 1) from rfl, e1];simp only;rw [fh E _ a rfl ha (.inl (by omega)), e2];simp only;rw [fh E _ k rfl hk (.inl (by omega)), k2]
end
theorem wQ {L : List Int} (hL : bY L) {i : Nat} {v : bp} {j : Nat} (fc : pk L i = 36) (h : cj L i = .ok (v, j)) : j = i ∨ aj L (aI L (i + 1)) ≤ j := by
 have E : Cl 0 L L := ⟨fun k _ => by rw [Nat.zero_add], .inr (.inr (by rw [Nat.zero_add]; exact lP (Nat.le_refl _)))⟩;have e0 : aj L i = i := Cc (by rw [fc]; decide) (by rw [fc]; decide);have hl : i < L.length := aS (by omega);unfold cj at h;rw [e0, if_neg (by rw [fc]; decide), show decide (pk L i = 94) = false by rw [fc]; decide] at h;unfold cM at h;cases hi : bA L i with
 | error e => rw [hi] at h; cases h
 | ok q =>
  obtain ⟨⟨l, c⟩, j1⟩ := q;have zL := ja E hL (Nat.le_of_lt hl) hi;have key : j1 = i ∨ aj L (aI L (i + 1)) ≤ j1 := by
   unfold bA at hi;rw [cg, e0] at hi;unfold bq at hi;rw [if_neg (by rw [fc]; decide), if_neg (by rw [fc]; decide)] at hi;by_cases hc : pk L i = 36 ∧ eN (pk L (i + 1)) = true
   ·rw [if_pos hc] at hi;cases hs : cQ L (i + 1) with
    | error e => rw [hs] at hi; cases hi
    | ok q =>
     obtain ⟨s, k⟩ := q;have hk := (jk hs).2.2.2;rw [hs] at hi;simp only at hi;split at hi
     ·cases hi
     have := DK hL _ _ _ _ _ _ hi;rw [hk] at this;exact .inr this
   rw [if_neg hc, if_neg (by rw [fc]; decide), if_neg (by rw [fc]; decide)] at hi;simp only at hi;injection hi with hi; injection hi with h3 h4;exact .inl h4.symm
  rw [hi] at h;simp only at h;rcases key with rfl | key
  ·rw [if_neg (by rw [fc]; decide), if_neg (by decide)] at h;simp only at h;unfold dx at h;rw [if_neg (by rw [fc]; decide)] at h;simp only at h;injection h with h; injection h with h3 h4;rw [e0] at h4;exact .inl h4.symm
  right;have up : ∀ (r : fH (List aE × List aE × Int)), (match r with | .error e => Except.error e | .ok ((b, s, c), j) => match dx L j with | .error e => .error e | .ok ((a, fin), k) => .ok ((⟨false, fin, b, s, a, c⟩ : bp), aj L k)) = .ok (v, j) → (∀ x k, r = .ok (x, k) → j1 ≤ k ∧ k ≤ L.length) → j1 ≤ j := by
   intro r hr hk;cases r with
   | error e => cases hr
   | ok q =>
    obtain ⟨⟨b, s, c⟩, k⟩ := q;obtain ⟨mT, hk2⟩ := hk _ _ rfl;simp only at hr;cases ht : dx L k with
    | error e => rw [ht] at hr; cases hr
    | ok q =>
     obtain ⟨⟨a, fin⟩, m⟩ := q;have hm := (xz E hL hk2 ht).1;rw [ht] at hr;simp only at hr;injection hr with hr; injection hr with h3 h4;have := b7 L m;omega
  refine Nat.le_trans key (up _ h ?_);intro x k hk;split at hk
  ·rename_i jz;have oJ : j1 < L.length := aS (by omega);split at hk
   ·cases hk
   cases hi2 : bA L (j1 + 1) with
   | error e => rw [hi2] at hk; cases hk
   | ok q =>
    obtain ⟨⟨l2, c2⟩, j2⟩ := q;have := ja E hL oJ hi2;rw [hi2] at hk;simp only at hk;injection hk with hk; injection hk with h3 h4;omega
  rw [if_neg (by decide)] at hk;injection hk with hk; injection hk with h3 h4;omega
theorem uO {p : Nat} {L L' : List Int} (E : Cl p L L') (hL : bY L) {i : Nat} {v : aZ} {j : Nat} (hi : i ≤ L.length) (h : dy L i = .ok (v, j)) : i ≤ j ∧ j ≤ L.length ∧ (j < L.length → dy L' (p + i) = .ok (v, p + j)) := by
 unfold dy at h;by_cases jR : pk L i = 58
 ·rw [if_pos jR] at h;have hl : i < L.length := aS (by omega);obtain ⟨g1, g2, g3⟩ := DN E hL h;refine ⟨g1, g2, fun hj => ?_⟩;unfold dy;rw [E.pk hl, if_pos jR];exact g3 hj
 rw [if_neg jR] at h;by_cases fc : pk L i = 36 ∧ pk L (aj L (aI L (i + 1))) = 61
 ·rw [if_pos fc] at h;have hl : i < L.length := aS (by omega);have o7 : aj L (aI L (i + 1)) < L.length := aS (by omega);obtain ⟨g1, g2, g3⟩ := Fk E hL hl h;refine ⟨g1, g2, fun hj => ?_⟩;unfold dy;rw [E.pk hl, if_neg jR, show p + i + 1 = p + (i + 1) from rfl, ir E hl, fh E _ _ rfl (dZ hl) (.inl o7), E.pk o7, if_pos fc];exact g3 hj
 rw [if_neg fc] at h;obtain ⟨g1, g2, g3⟩ := DC E hL hi h;refine ⟨g1, g2, fun hj => ?_⟩;have hl : i < L.length := (by omega);unfold dy;rw [E.pk hl, if_neg jR, if_neg];exact g3 hj;rintro ⟨x1, x2⟩;rw [show p + i + 1 = p + (i + 1) from rfl, ir E hl] at x2;rcases Nat.lt_or_ge (aj L (aI L (i + 1))) L.length with hs | hs
 ·rw [fh E _ _ rfl (dZ hl) (.inl hs), E.pk hs] at x2;exact fc ⟨x1, x2⟩
 unfold fB at h;cases hsd : cj L i with
 | error e => rw [hsd] at h; cases h
 | ok q =>
  obtain ⟨l, a⟩ := q;rw [hsd] at h;simp only at h;cases ha : cl L a with
  | error e => rw [ha] at h; cases h
  | ok q =>
   obtain ⟨d, k⟩ := q;have hk := (uy E ha);rcases wQ hL x1 hsd with rfl | hge
   ·unfold cl at ha;rw [if_neg (by omega), if_neg (fun x => by have := x.1; omega), uG (by omega)] at ha;cases ha
   omega
theorem xK {L : List Int} (hL : bY L) {i : Nat} {v : aZ} {j : Nat} (hi : i ≤ L.length) (h : dy L i = .ok (v, j)) : i ≤ j ∧ j ≤ L.length := by
 have E : Cl 0 L L := ⟨fun k _ => by rw [Nat.zero_add], .inr (.inr (by rw [Nat.zero_add]; exact lP (Nat.le_refl _)))⟩;exact ⟨(uO E hL hi h).1, (uO E hL hi h).2.1⟩
end Go.Proofs.YthnhbcohfoodlaaGreatDoor
