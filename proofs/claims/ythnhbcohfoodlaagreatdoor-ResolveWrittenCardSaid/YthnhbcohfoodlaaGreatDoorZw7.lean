/- SynP + SynMono + RunesText + ParseHex -/
import Derived.Test.YthnhbcohfoodlaaGreatDoorZw6
import Derived.Laws.Cover4
import Derived.Laws.Runes
import Derived.Test.YthnhbcohfoodlaaGreatDoorZw2
import Derived.Lib.ConvBytes
import Derived.Lib.Strings
set_option maxHeartbeats 3200000
set_option maxRecDepth 100000
namespace Go.Proofs.YthnhbcohfoodlaaGreatDoor
open Go.RowKit
def pk (L : List Int) (i : Nat) : Int := (L[i]?).getD (-1)
def gC (r : Int) : Bool := decide (r = 32) || (decide (r = 9) || decide (r = 10))
def lN : List Int := [91, 93, 38, 45, 94, 92, 58, 36, 40, 41, 123, 125, 60, 62, 124, 59, 35, 39, 34, 61, 44]
def bT (r : Int) : Bool := decide (0 ≤ r) && (!gC r && !lN.contains r)
def ee (r : Int) : Bool := (decide (48 ≤ r) && decide (r ≤ 57)) || ((decide (97 ≤ r) && decide (r ≤ 102)) || (decide (65 ≤ r) && decide (r ≤ 70)))
def mY (r : Int) : Int := if r ≤ 57 then r - 48 else if 97 ≤ r then r - 87 else r - 55
def C9 (r : Int) : Bool := (decide (48 ≤ r) && decide (r ≤ 57)) || ((decide (97 ≤ r) && decide (r ≤ 122)) || (decide (65 ≤ r) && decide (r ≤ 90)))
def aA (p : Int → Bool) (L : List Int) (i : Nat) : Nat := i + ((L.drop i).takeWhile p).length
def aN (L : List Int) (i : Nat) : Nat := aA gC L i
def aO (L : List Int) (i j : Nat) : List Int := (L.drop i).take (j - i)
abbrev jz (α : Type) := Except (Int × Nat) (α × Nat)
def aW (L : List Int) (i : Nat) (r : Int) : Except (Int × Nat) Nat := if pk L i = r then .ok (i + 1) else .error (2, i)
def cF (ds : List Int) : Int := ds.foldl (fun x d => 16 * x + mY d) 0
def jn (L : List Int) (i : Nat) : jz Int :=
  match aW L (i + 1) 123 with
  | .error e => .error e
  | .ok a =>
    if aA ee L a - a < 1 ∨ 6 < aA ee L a - a then .error (2, a)
    else match aW L (aA ee L a) 125 with
      | .error e => .error e
      | .ok j => if 1114111 < cF (aO L a (aA ee L a)) then .error (3, i) else .ok (cF (aO L a (aA ee L a)), j)
def cC (L : List Int) (i : Nat) : jz Int :=
  if bT (pk L i) = true then .ok (pk L i, i + 1)
  else if pk L i ≠ 92 then .error (2, i)
  else if pk L (i + 1) = 110 then .ok (10, i + 2)
  else if pk L (i + 1) = 116 then .ok (9, i + 2)
  else if pk L (i + 1) = 117 then jn L (i + 1)
  else if pk L (i + 1) < 0 ∨ C9 (pk L (i + 1)) = true then .error (2, i + 1)
  else .ok (pk L (i + 1), i + 2)
def gU (L : List Int) (i : Nat) : jz (Int × Int) :=
  match cC L i with
  | .error e => .error e
  | .ok (low, j) =>
    if pk L j = 45 ∧ pk L (j + 1) ≠ 91 then
      match cC L (j + 1) with
      | .error e => .error e
      | .ok (high, k) => if high < low then .error (3, j + 1) else .ok ((low, high), k)
    else .ok ((low, low), j)
def gz (n : List Int) : Option af :=
  if n = [100, 105, 103, 105, 116] then some [(48, 57)]
  else if n = [108, 111, 119, 101, 114] then some [(97, 122), (223, 246), (248, 255)]
  else if n = [117, 112, 112, 101, 114] then some [(65, 90), (192, 214), (216, 222)]
  else if n = [108, 101, 116, 116, 101, 114] then some [(65, 90), (97, 122), (192, 214), (216, 246), (248, 255)]
  else if n = [118, 111, 119, 101, 108] then some [(65, 65), (69, 69), (73, 73), (79, 79), (85, 85), (97, 97), (101, 101), (105, 105), (111, 111), (117, 117)]
  else if n = [103, 114, 101, 101, 107] then some [(880, 1023)]
  else if n = [99, 121, 114, 105, 108, 108, 105, 99] then some [(1024, 1279)]
  else if n = [115, 112, 97, 99, 101] then some [(9, 10), (32, 32)]
  else if n = [97, 110, 121] then some [(0, 1114111)]
  else none
def eP (L : List Int) (i : Nat) : jz af :=
  match gz (aO L (i + 2) (aA bT L (i + 2))) with
  | none => .error (7, i + 2)
  | some s =>
    match aW L (aA bT L (i + 2)) 58 with
    | .error e => .error e
    | .ok j => match aW L j 93 with
      | .error e => .error e
      | .ok k => .ok (s, k)
def pQ (r : Int) : Int := if r = 38 ∨ r = 45 then r else 124
def cU (inner : Nat → jz af) (L : List Int) (i : Nat) : jz af :=
  if pk L i = 91 ∧ pk L (i + 1) = 58 then eP L i
  else if pk L i = 91 then inner i
  else if pk L i = 38 ∨ pk L i = 45 then inner (aN L (i + 1))
  else match gU L i with
    | .error e => .error e
    | .ok (x, j) => .ok ([x], j)
def dF (inner : Nat → jz af) (L : List Int) : Nat → Nat → af → jz af
  | 0, i, _ => .error (2, i)
  | f + 1, i, cur =>
    if pk L (aN L i) = 93 then .ok (cur, aN L i + 1)
    else match cU inner L (aN L i) with
      | .error e => .error e
      | .ok (s, j) =>
        if (mq (pQ (pk L (aN L i))) cur s).2 ≠ 0 then .error ((mq (pQ (pk L (aN L i))) cur s).2, j)
        else dF inner L f j (mq (pQ (pk L (aN L i))) cur s).1
def bu (L : List Int) : Nat → Nat → jz af
  | 0, i => .error (if pk L i = 91 then 4 else 2, i)
  | n + 1, i =>
    match aW L i 91 with
    | .error e => .error e
    | .ok j =>
      match dF (bu L n) L (L.length + 1) (if pk L j = 94 then j + 1 else j) [] with
      | .error e => .error e
      | .ok (cur, k) =>
        if pk L j = 94 then (if (mq 94 cur []).2 ≠ 0 then .error ((mq 94 cur []).2, k) else .ok ((mq 94 cur []).1, k))
        else .ok (cur, k)
theorem bA {L : List Int} {i : Nat} (h : pk L i ≠ -1) : i < L.length := by
 unfold pk at h;rcases Nat.lt_or_ge i L.length with hl | hl;exact hl;rw [List.getElem?_eq_none hl] at h; exact absurd rfl h
theorem Aj {L : List Int} {i : Nat} {r : Int} (h : L[i]? = some r) : pk L i = r := by unfold pk; rw [h]; rfl
theorem mM {L : List Int} {i : Nat} (h : L.length ≤ i) : pk L i = -1 := by unfold pk; rw [List.getElem?_eq_none h]; rfl
theorem cZ {p : Int → Bool} {L : List Int} {i : Nat} (h : i < L.length) (hp : p (pk L i) = true) : aA p L i = aA p L (i + 1) := by
 unfold aA;rw [List.drop_eq_getElem_cons h, List.takeWhile_cons];have : pk L i = L[i] := Aj (List.getElem?_eq_getElem h);rw [this] at hp;rw [hp];simp;omega
theorem cx {p : Int → Bool} {L : List Int} {i : Nat} (h : i < L.length → p (pk L i) = false) : aA p L i = i := by
 unfold aA;rcases Nat.lt_or_ge i L.length with hl | hl
 ·rw [List.drop_eq_getElem_cons hl, List.takeWhile_cons];have : pk L i = L[i] := Aj (List.getElem?_eq_getElem hl);have h2 := h hl;rw [this] at h2;rw [h2];simp
 rw [List.drop_of_length_le hl]; simp
theorem gP {p : Int → Bool} {L : List Int} {i : Nat} (h : i ≤ L.length) : i ≤ aA p L i ∧ aA p L i ≤ L.length := by
 unfold aA;have := (List.takeWhile_sublist p (l := L.drop i)).length_le;rw [List.length_drop] at this;omega
theorem fF {L : List Int} {i j : Nat} {r : Int} (h : aW L i r = .ok j) : j = i + 1 ∧ pk L i = r := by
 unfold aW at h;split at h
 ·rename_i hp; injection h with h; exact ⟨h.symm, hp⟩
 cases h
theorem ir {L : List Int} {i : Nat} {r : Int} (h : pk L i = r) : aW L i r = .ok (i + 1) := by unfold aW; rw [if_pos h]
theorem rj {L : List Int} {i : Nat} {r : Int} (h : pk L i ≠ r) : aW L i r = .error (2, i) := by unfold aW; rw [if_neg h]
theorem eO (p : Int → Bool) (L : List Int) (i : Nat) : i ≤ aA p L i := by unfold aA; omega
theorem ei (L : List Int) (i : Nat) : i ≤ aN L i := eO _ _ _
def cA (L : List Int) : Prop := ∀ x ∈ L, 0 ≤ x ∧ x ≤ 1114111
theorem uc {L : List Int} (h : cA L) (i : Nat) : pk L i = -1 ∨ (0 ≤ pk L i ∧ pk L i ≤ 1114111) := by
 unfold pk;cases hi : L[i]? with
 | none => exact .inl rfl
 | some x => exact .inr (h x (List.mem_of_getElem? hi))
theorem Ge {L : List Int} (h : cA L) {i : Nat} (h0 : pk L i ≠ -1) : 0 ≤ pk L i ∧ pk L i ≤ 1114111 := by
 rcases uc h i with h1 | h1;exact absurd h1 h0;exact h1
theorem vD {d : Int} (h : ee d = true) : 0 ≤ mY d ∧ mY d ≤ 15 := by
 unfold ee at h;unfold mY;simp only [Bool.or_eq_true, Bool.and_eq_true, decide_eq_true_eq] at h;split;omega;split <;> omega
theorem oA (ds : List Int) : ∀ x : Int, 0 ≤ x → (∀ d ∈ ds, ee d = true) → 0 ≤ ds.foldl (fun x d => 16 * x + mY d) x ∧ ds.foldl (fun x d => 16 * x + mY d) x < (x + 1) * 16 ^ ds.length := by
 induction ds with
 | nil => intro x h _; simp; omega
 | cons d ds ih =>
  intro x hx hd;have h1 := vD (hd d List.mem_cons_self);obtain ⟨i1, i2⟩ := ih (16 * x + mY d) (by omega) (fun y hy => hd y (List.mem_cons_of_mem _ hy));rw [List.foldl_cons, List.length_cons];refine ⟨i1, Int.lt_of_lt_of_le i2 ?_⟩;have e : (16 : Int) ^ (ds.length + 1) = 16 * 16 ^ ds.length := (by rw [Int.pow_succ, Int.mul_comm]);rw [e, ← Int.mul_assoc];exact Int.mul_le_mul_of_nonneg_right (by omega) (Int.pow_nonneg (by decide))
theorem oy {p : Int → Bool} (l : List Int) : ∀ x ∈ l.takeWhile p, p x = true := by
 induction l with
 | nil => simp
 | cons a l ih =>
  intro x hx;rw [List.takeWhile_cons] at hx;split at hx
  ·rcases List.mem_cons.1 hx with rfl | hx;assumption;exact ih x hx
  simp at hx
theorem oZ (p : Int → Bool) (L : List Int) (i : Nat) : aO L i (aA p L i) = (L.drop i).takeWhile p := by
 unfold aO aA;rw [Nat.add_sub_cancel_left];have h := (List.takeWhile_prefix p (l := L.drop i));exact (List.prefix_iff_eq_take.1 h).symm
theorem yA (L : List Int) (i : Nat) (h : aA ee L i - i ≤ 6) : 0 ≤ cF (aO L i (aA ee L i)) ∧ cF (aO L i (aA ee L i)) < 16777216 := by
 rw [oZ];obtain ⟨h1, h2⟩ := oA ((L.drop i).takeWhile ee) 0 (Int.le_refl _) (oy _);refine ⟨h1, Int.lt_of_lt_of_le h2 ?_⟩;have hl : ((L.drop i).takeWhile ee).length ≤ 6 := (by unfold aA at h; omega);generalize ((L.drop i).takeWhile ee).length = k at hl;have : k = 0 ∨ k = 1 ∨ k = 2 ∨ k = 3 ∨ k = 4 ∨ k = 5 ∨ k = 6 := (by omega);rcases this with rfl | rfl | rfl | rfl | rfl | rfl | rfl <;> decide
theorem Ln {L : List Int} {i j : Nat} {x : Int} (h : jn L i = .ok (x, j)) : i < j ∧ 0 ≤ x ∧ x ≤ 1114111 := by
 unfold jn at h;cases h1 : aW L (i + 1) 123 with
 | error e => rw [h1] at h; cases h
 | ok a =>
  rw [h1] at h;simp only at h;split at h
  ·cases h
  rename_i hn;rw [not_or] at hn;have ha := (fF h1).1;cases h2 : aW L (aA ee L a) 125 with
  | error e => rw [h2] at h; cases h
  | ok b =>
   rw [h2] at h;simp only at h;have hb := (fF h2).1;have := eO ee L a;have hr := yA L a (by omega);split at h
   ·cases h
   injection h with h;injection h with h3 h4;omega
theorem nj {L : List Int} (hL : cA L) {i j : Nat} {x : Int} (h : cC L i = .ok (x, j)) : i < j ∧ 0 ≤ x ∧ x ≤ 1114111 := by
 unfold cC at h;split at h
 ·rename_i hp;injection h with h;injection h with h1 h2;have : pk L i ≠ -1 := fun e => (by rw [e] at hp; exact absurd hp (by decide));have := Ge hL this;omega
 split at h
 ·cases h
 split at h
 ·injection h with h; injection h with h1 h2; omega
 split at h
 ·injection h with h; injection h with h1 h2; omega
 split at h
 ·have := Ln h; omega
 split at h
 ·cases h
 rename_i hn;rw [not_or] at hn;injection h with h;injection h with h1 h2;have := uc hL (i + 1);omega
theorem Hs {L : List Int} (hL : cA L) {i j : Nat} {x : Int × Int} (h : gU L i = .ok (x, j)) : i < j ∧ 0 ≤ x.1 ∧ x.1 ≤ x.2 ∧ x.2 ≤ 1114111 := by
 unfold gU at h;cases h1 : cC L i with
 | error e => rw [h1] at h; cases h
 | ok p =>
  obtain ⟨low, a⟩ := p;rw [h1] at h;have ha := nj hL h1;simp only at h;split at h
  ·cases h2 : cC L (a + 1) with
   | error e => rw [h2] at h; cases h
   | ok q =>
    obtain ⟨high, b⟩ := q;rw [h2] at h;have hb := nj hL h2;simp only at h;split at h
    ·cases h
    injection h with h;injection h with h3 h4;subst h3;simp only;omega
  injection h with h;injection h with h3 h4;subst h3;simp only;omega
theorem xV {x : Int × Int} (h : 0 ≤ x.1 ∧ x.1 ≤ x.2 ∧ x.2 ≤ 1114111) : aF [x] := ⟨by simp, by simpa using h, List.pairwise_singleton _ _⟩
theorem nH : aF [] := ⟨Nat.zero_le _, by simp, List.Pairwise.nil⟩
theorem AF {n : List Int} {s : af} (h : gz n = some s) : aF s := by
 have key : ∀ s : af, cm s = 0 → aF s := fun _ => jN;unfold gz at h;(repeat' (split at h));(all_goals first | (injection h with h; subst h; exact key _ (by decide)) | cases h)
theorem Gu {L : List Int} {i j : Nat} {s : af} (h : eP L i = .ok (s, j)) : i < j ∧ aF s := by
 unfold eP at h;cases h0 : gz (aO L (i + 2) (aA bT L (i + 2))) with
 | none => rw [h0] at h; cases h
 | some t =>
  rw [h0] at h;simp only at h;cases h1 : aW L (aA bT L (i + 2)) 58 with
  | error e => rw [h1] at h; cases h
  | ok a =>
   rw [h1] at h;simp only at h;cases h2 : aW L a 93 with
   | error e => rw [h2] at h; cases h
   | ok b =>
    rw [h2] at h;simp only at h;injection h with h;injection h with h3 h4;subst h3;have := eO bT L (i + 2);have := (fF h1).1;have := (fF h2).1;exact ⟨by omega, AF h0⟩
def yx (inner : Nat → jz af) : Prop := ∀ i s j, inner i = .ok (s, j) → i < j ∧ aF s
theorem Al {inner : Nat → jz af} (hi : yx inner) {L : List Int} (hL : cA L) {i j : Nat} {s : af} (h : cU inner L i = .ok (s, j)) : i < j ∧ aF s := by
 unfold cU at h;split at h;exact Gu h;split at h;exact hi _ _ _ h;split at h
 ·have := hi _ _ _ h;have h2 := ei L (i + 1);exact ⟨by omega, this.2⟩
 cases h1 : gU L i with
 | error e => rw [h1] at h; cases h
 | ok p =>
  obtain ⟨x, a⟩ := p;rw [h1] at h;simp only at h;injection h with h;injection h with h3 h4;subst h3;have := Hs hL h1;exact ⟨by omega, xV this.2⟩
theorem Gc {inner : Nat → jz af} (hi : yx inner) {L : List Int} (hL : cA L) : ∀ (f i j : Nat) (cur s : af), aF cur → dF inner L f i cur = .ok (s, j) → i < j ∧ aF s := by
 intro f;induction f with
 | zero => intro i j cur s _ h; unfold dF at h; cases h
 | succ f ih =>
  intro i j cur s hc h;rw [dF] at h;have h0 := ei L i;split at h
  ·injection h with h;injection h with h3 h4;subst h3;exact ⟨by omega, hc⟩
  cases h1 : cU inner L (aN L i) with
  | error e => rw [h1] at h; cases h
  | ok p =>
   obtain ⟨t, a⟩ := p;rw [h1] at h;simp only at h;have hp := Al hi hL h1;split at h
   ·cases h
   have := ih _ _ _ _ (i5 _ hc hp.2) h;exact ⟨by omega, this.2⟩
theorem nD {L : List Int} (hL : cA L) : ∀ n, yx (bu L n) := by
 intro n;induction n with
 | zero => intro i s j h; unfold bu at h; cases h
 | succ n ih =>
  intro i s j h;rw [bu] at h;cases h1 : aW L i 91 with
  | error e => rw [h1] at h; cases h
  | ok a =>
   rw [h1] at h;simp only at h;have ha := (fF h1).1;cases h2 : dF (bu L n) L (L.length + 1) (if pk L a = 94 then a + 1 else a) [] with
   | error e => rw [h2] at h; cases h
   | ok p =>
    obtain ⟨cur, k⟩ := p;rw [h2] at h;simp only at h;obtain ⟨g1, g2⟩ := Gc ih hL _ _ _ _ _ nH h2;have hk : i < k := (by split at g1 <;> omega);split at h
    ·split at h
     ·cases h
     injection h with h;injection h with h3 h4;subst h3 h4;exact ⟨hk, i5 _ g2 nH⟩
    injection h with h;injection h with h3 h4;subst h3 h4;exact ⟨hk, g2⟩
theorem uG {inner : Nat → jz af} {L : List Int} {f i : Nat} {cur : af} (h : pk L (aN L i) = 93) : dF inner L (f + 1) i cur = .ok (cur, aN L i + 1) := by rw [dF, if_pos h]
theorem jV {inner : Nat → jz af} {L : List Int} {f i : Nat} {cur : af} {e : Int × Nat} (h : pk L (aN L i) ≠ 93) (he : cU inner L (aN L i) = .error e) : dF inner L (f + 1) i cur = .error e := by rw [dF, if_neg h, he]
theorem gY {inner : Nat → jz af} {L : List Int} {f i j : Nat} {cur s : af} (h : pk L (aN L i) ≠ 93) (he : cU inner L (aN L i) = .ok (s, j)) :
    dF inner L (f + 1) i cur = if (mq (pQ (pk L (aN L i))) cur s).2 ≠ 0 then .error ((mq (pQ (pk L (aN L i))) cur s).2, j) else dF inner L f j (mq (pQ (pk L (aN L i))) cur s).1 := by rw [dF, if_neg h, he]
def cX (l : List Int) : Prop := ∀ x ∈ l, 0 ≤ x ∧ x < 128
def mE (l : List Int) : List UInt8 := l.map fun x => UInt8.ofNat x.toNat
theorem Cp {r : Int} (h0 : 0 ≤ r) (h1 : r < 128) : (Utf8.encode r).data.toList = [UInt8.ofNat r.toNat] := by
 have hv : Utf8.valid r = true := (by simp [Utf8.valid]; omega);unfold Utf8.encode;simp only [hv, if_true];rw [if_pos (by omega)]
theorem By {r : Int} (h : ¬ (0 ≤ r ∧ r < 128)) : ∃ b ∈ (Utf8.encode r).data.toList, 128 ≤ b.toNat := by
 cases hv : Utf8.valid r
 ·have : Utf8.encode r = Utf8.encode 65533 := by
   unfold Utf8.encode;simp only [hv, show Utf8.valid 65533 = true from by decide];rfl
  rw [this];exact ⟨239, by decide, by decide⟩
 have h128 : 128 ≤ r := by
  simp [Utf8.valid] at hv;omega
 obtain ⟨h1, _, h3⟩ := encode_facts r hv h128;exact ⟨_, Array.getElem_mem_toList (xs := (Utf8.encode r).data) (by simpa using (show (Utf8.encode r).size - 1 < (Utf8.encode r).size by omega)), h3 (by omega)⟩
theorem xb (l : List Int) : ∀ s : ByteArray, (l.foldl (fun r n => r ++ Utf8.encode n) s).data.toList = s.data.toList ++ l.flatMap fun r => (Utf8.encode r).data.toList := by
 induction l with
 | nil => intro s; simp
 | cons x l ih => intro s; rw [List.foldl_cons, ih, List.flatMap_cons]; simp
theorem mz (l : List Int) : (runesBytes l).data.toList = l.flatMap fun r => (Utf8.encode r).data.toList := by
 rw [runesBytes, xb]; rfl
theorem dY {l : List Int} (h : cX l) : (runesBytes l).data.toList = mE l := by
 rw [mz];induction l with
 | nil => rfl
 | cons x l ih =>
  have hx := h x List.mem_cons_self;rw [List.flatMap_cons, Cp hx.1 hx.2, ih (fun y hy => h y (List.mem_cons_of_mem _ hy))];rfl
theorem IW : ∀ {a b : List Int}, cX a → cX b → mE a = mE b → a = b := by
 intro a;induction a with
 | nil => intro b _ _ h; cases b with
   | nil => rfl
   | cons y b => cases h
 | cons x a ih =>
  intro b ha hb h;cases b with
  | nil => cases h
  | cons y b =>
   unfold mE at h;rw [List.map_cons, List.map_cons] at h;injection h with h1 h2;have hx := ha x List.mem_cons_self;have hy := hb y List.mem_cons_self;have h3 := congrArg UInt8.toNat h1;simp at h3;obtain rfl : x = y := (by omega);rw [ih (fun z hz => ha z (List.mem_cons_of_mem _ hz)) (fun z hz => hb z (List.mem_cons_of_mem _ hz)) h2]
theorem wE {l m : List Int} (hm : cX m) (h : runesBytes l = runesBytes m) : l = m := by
 have e : (runesBytes l).data.toList = mE m := (by rw [h, dY hm]);have hl : cX l := by
  intro x hx;by_cases h1 : 0 ≤ x ∧ x < 128;exact h1;exfalso;obtain ⟨b, hb, h2⟩ := By h1;have : b ∈ mE m := (by rw [← e, mz]; exact List.mem_flatMap.2 ⟨x, hx, hb⟩);unfold mE at this;obtain ⟨y, hy, rfl⟩ := List.mem_map.1 this;have := hm y hy;simp at h2;omega
 rw [dY hl] at e;exact IW hl hm e
theorem td {l : List Int} (h : cX l) : (runesBytes l).size = l.length := by
 have h2 := congrArg List.length (dY h);rw [mE, List.length_map, Array.length_toList] at h2;exact h2
theorem jS {l : List Int} (h : ∀ d ∈ l, ee d = true) : cX l := by
 intro d hd;have := h d hd;unfold ee at this;simp only [Bool.or_eq_true, Bool.and_eq_true, decide_eq_true_eq] at this;omega
theorem BA (l : List Int) (d : Int) : cF (l ++ [d]) = 16 * cF l + mY d := by unfold cF; rw [List.foldl_append]; rfl
theorem lS {l : List Int} (h : ∀ d ∈ l, ee d = true) (hl : l.length ≤ 6) : 0 ≤ cF l ∧ cF l < 16777216 := by
 obtain ⟨h1, h2⟩ := oA l 0 (Int.le_refl _) h;refine ⟨h1, Int.lt_of_lt_of_le h2 ?_⟩;generalize l.length = k at hl;have : k = 0 ∨ k = 1 ∨ k = 2 ∨ k = 3 ∨ k = 4 ∨ k = 5 ∨ k = 6 := (by omega);rcases this with rfl | rfl | rfl | rfl | rfl | rfl | rfl <;> decide
theorem F5 (c : Int) (w : World) (h : (65 ≤ c ∧ c ≤ 70) ∨ (97 ≤ c ∧ c ≤ 102)) :
    Calls Tryz.prog 212 #[.int .u8 c] w fun e w' => e = .returned (.int .u8 (mY c + 87)) ∧ w' = w := by
 have hc : c = 65 ∨ c = 66 ∨ c = 67 ∨ c = 68 ∨ c = 69 ∨ c = 70 ∨ c = 97 ∨ c = 98 ∨ c = 99 ∨ c = 100 ∨ c = 101 ∨ c = 102 := (by omega);clear h;rcases hc with rfl | rfl | rfl | rfl | rfl | rfl | rfl | rfl | rfl | rfl | rfl | rfl
 all_goals
   go_enter Tryz.func212, Tryz.ntmps212
   go_wp2_with fail
   go_ret
   exact ⟨rfl, rfl⟩
def PF (W : World) (ds : List Int) (u n i : Value) (wr : World) : Prop := u = .bool false ∧ ∃ j : Nat, j ≤ ds.length ∧ i = .int .i64 j ∧ n = .int .u64 (cF (ds.take j)) ∧ wr = W
theorem Cz (s : ByteArray) (ds : List Int) (w : World) (hs : s.data.toList = mE ds) (hd : ∀ d ∈ ds, ee d = true) (h1 : 1 ≤ ds.length) (h6 : ds.length ≤ 6) :
    Calls Tryz.prog 206 #[.string s, .int .i64 16, .int .i64 64] w fun e w' => e = .returned (.tuple #[.int .u64 (cF ds), .nilIface]) ∧ Below w.heap.size w w' := by
 have hsz : s.size = ds.length := (by have h2 := congrArg List.length hs; rw [mE, List.length_map, Array.length_toList] at h2; exact h2);have tD := Lib.run_convert_string_bytes (P := Tryz.prog) w 9 76 5 s Tryz.underlying9 Tryz.underlying76 Tryz.underlying5;have hcell : ∀ j d, ds[j]? = some d → (Lib.bytesWorld w 5 s).cell? ⟨w.heap.size, j, none⟩ = some (.int .u8 d) := fun j d h => by
  have hj : j < s.size := (by rw [hsz]; exact (List.getElem?_eq_some_iff.1 h).1);have := Lib.bytesWorld_cell w 5 s j hj;rw [this, hs];have hb := jS hd d (List.mem_of_getElem? h);have : (mE ds).getD j 0 = UInt8.ofNat d.toNat := (by simp [mE, List.getD_eq_getElem?_getD, h]);rw [this];congr 2;simp;omega
 have hB : Below w.heap.size w (Lib.bytesWorld w 5 s) := Lib.below_freeze (((Below.refl _ _).drew).alloc (Nat.le_refl _) _) (p := ⟨w.heap.size, _, none⟩) (Nat.le_refl _) _;have hne : (s.toList == []) = false := by
  rw [beq_eq_false_iff_ne, Lib.toList_data];intro e;have := congrArg List.length e;rw [Array.length_toList] at this;have h2 : s.size = 0 := this;omega
 rw [hsz] at tD;generalize Lib.bytesWorld w 5 s = W at *;generalize hk : ds.length = k at *;generalize Go.grownCap w k 0 5 = C at *;have HC := Lib.hid hcell;have HD := Lib.hid hd;clear hcell hd hs;go_enter Tryz.func206, Tryz.ntmps206;have YI : IntKind.u64.wrap (IntKind.u64.wrap 18446744073709551616 - 1) = 18446744073709551615 := (by decide);go_wp2_with fail;go_loopw [12, 13, 101] (PF W ds) (fun _ _ i _ => k - (intOf i).toNat);(case atStart => exact ⟨rfl, 0, Nat.zero_le _, rfl, rfl, rfl⟩);obtain ⟨rfl, j, hj, rfl, rfl, rfl⟩ := hrel;rw [hk] at hj;by_cases hlt : j < k
 ·obtain ⟨d, SP⟩ : ∃ z, ds[j]? = some z := ⟨_, List.getElem?_eq_getElem (by omega)⟩;have hh := HD.out d (List.mem_of_getElem? SP);have d0 := HC.out j d SP;obtain ⟨x0, x1⟩ := lS (l := ds.take j) (fun y hy => HD.out y (List.mem_of_mem_take hy)) (by rw [List.length_take]; omega);have HS := Lib.hid (show cF (ds.take (j + 1)) = 16 * cF (ds.take j) + mY d by rw [List.take_add_one, SP]; exact BA _ _);have hv := vD hh;have hr : (48 ≤ d ∧ d ≤ 57) ∨ (97 ≤ d ∧ d ≤ 102) ∨ (65 ≤ d ∧ d ≤ 70) := by
   unfold ee at hh;simpa only [Bool.or_eq_true, Bool.and_eq_true, decide_eq_true_eq] using hh
  generalize cF (ds.take j) = X at *;clear SP hh;have Vo : (48 ≤ d ∧ d ≤ 57 ∧ mY d = d - 48) ∨ (¬ d ≤ 57 ∧ 65 ≤ d ∧ d ≤ 102 ∧ ((65 ≤ d ∧ d ≤ 70) ∨ (97 ≤ d ∧ d ≤ 102))) := by
   unfold mY;rcases hr with h | h | h
   ·left; rw [if_pos h.2]; omega
   ·right; omega
   right; omega
  rcases Vo with ⟨q1, q2, q3⟩ | ⟨q1, q2, q3, q4⟩
  ·have HV := Lib.hid q3;clear hr q3;have tE : decide (48 ≤ d) = true := decide_eq_true q1;have nY : decide (d ≤ 57) = true := decide_eq_true q2;go_wp2_with fail;exact ⟨⟨rfl, j + 1, by omega, by go_num, by rw [HS.out, HV.out]; congr 1; omega, rfl⟩, by simp [intOf]; omega⟩
  have HL := Lib.hid (fun (W : World) => F5 d W (by omega));have nY : decide (d ≤ 57) = false := decide_eq_false q1;have tE : decide (48 ≤ d) = true := decide_eq_true (by omega);have Za : 10 ≤ mY d := (by unfold mY; rw [if_neg q1]; split <;> omega);have Vy : (d == 95) = false := (by simp; omega);generalize mY d = v at *;clear hr q4;go_wp2_with (go_at_call 212; refine (HL.out _).mono ?_; rintro e w1 ⟨rfl, rfl⟩);exact ⟨⟨rfl, j + 1, by omega, by go_num, by rw [HS.out]; congr 1; omega, rfl⟩, by simp [intOf]; omega⟩
 obtain rfl : j = k := (by omega);rw [List.take_of_length_le (by omega)];go_wp2_with fail;go_ret2;exact ⟨rfl, hB⟩
theorem yO (s : ByteArray) (ds : List Int) (w : World) (hs : s.data.toList = mE ds) (hd : ∀ d ∈ ds, ee d = true) (h1 : 1 ≤ ds.length) (h6 : ds.length ≤ 6) :
    Calls Tryz.prog 200 #[.string s, .int .i64 16, .int .i64 64] w fun e w' => e = .returned (.tuple #[.int .i64 (cF ds), .nilIface]) ∧ Below w.heap.size w w' := by
 have HU := Lib.hid (Cz s ds w hs hd h1 h6);have hsz : s.size = ds.length := (by have h2 := congrArg List.length hs; rw [mE, List.length_map, Array.length_toList] at h2; exact h2);have hne : (s.toList == []) = false := by
  rw [beq_eq_false_iff_ne, Lib.toList_data];intro e;have := congrArg List.length e;rw [Array.length_toList] at this;have h2 : s.size = 0 := this;omega
 obtain ⟨d, SS⟩ : ∃ z, ds[0]? = some z := ⟨_, List.getElem?_eq_getElem (by omega)⟩;have hh := hd d (List.mem_of_getElem? SS);have hr : (48 ≤ d ∧ d ≤ 57) ∨ (97 ≤ d ∧ d ≤ 102) ∨ (65 ≤ d ∧ d ≤ 70) := by
  unfold ee at hh;simpa only [Bool.or_eq_true, Bool.and_eq_true, decide_eq_true_eq] using hh
 have SB : ∀ W : World, (Instr.index 9 (.string s) (.int .i64 0)).run Tryz.prog W = .ok (.int .u8 d) W := fun W => by
  rw [run_index_string W _ s _ _ Tryz.underlying9, dif_pos ⟨by omega, by omega⟩];have e : s.data.toList[0]? = some (UInt8.ofNat d.toNat) := (by rw [hs]; simp [mE, SS]);have h3 : s.data.toList[0]? = some (s[(0 : Nat)]'(by omega)) := by
   rw [List.getElem?_eq_getElem (by rw [Array.length_toList]; show 0 < s.size; omega)];rfl
  rw [h3] at e;injection e with e;simp only [Int.toNat_zero];rw [e];congr 2;simp;omega
 have h43 : (d == 43) = false := (by simp; omega);have Oi : (d == 45) = false := (by simp; omega);obtain ⟨x0, x1⟩ := lS hd h6;have YI : IntKind.u64.wrap 9223372036854775808 = 9223372036854775808 := (by decide);generalize cF ds = X at *;clear hs hd SS hh hr;go_enter Tryz.func200, Tryz.ntmps200;go_wp2_with fail;refine HU.out.mono ?_;rintro e w1 ⟨rfl, hb⟩;have HB := Lib.hid hb;clear hb;go_wp2_with fail;go_ret2;exact ⟨rfl, HB.out⟩
theorem FD (s : ByteArray) (ds : List Int) (w : World) (hs : s.data.toList = mE ds) (hd : ∀ d ∈ ds, ee d = true) (h1 : 1 ≤ ds.length) (h6 : ds.length ≤ 6) :
    Calls Tryz.prog 186 #[.string s, .int .i64 16, .int .i64 64] w fun e w' => e = .returned (.tuple #[.int .i64 (cF ds), .nilIface]) ∧ Below w.heap.size w w' := by
 have HI := Lib.hid (yO s ds w hs hd h1 h6);generalize cF ds = X at *;clear hs hd;go_enter Tryz.func186, Tryz.ntmps186;go_wp2_with fail;refine HI.out.mono ?_;rintro e w1 ⟨rfl, hb⟩;have HB := Lib.hid hb;clear hb;go_wp2_with fail;go_ret2;exact ⟨rfl, HB.out⟩
end Go.Proofs.YthnhbcohfoodlaaGreatDoor
