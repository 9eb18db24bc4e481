/- RulesRight + RdPartFr + RdPartA -/
import Derived.Test.YthnhbcohfoodlaaGreatDoorZw21
import Derived.Test.YthnhbcohfoodlaaGreatDoorZw44
import Derived.Test.YthnhbcohfoodlaaGreatDoorZw12
import Derived.Test.YthnhbcohfoodlaaGreatDoorZw31
set_option maxHeartbeats 12800000
set_option maxRecDepth 100000
namespace Go.Proofs.YthnhbcohfoodlaaGreatDoor
open Go.RowKit
def AU (a : ak) : Prop := bZ a = a ∧ (a.kind = 1 ∨ a.kind = 2 ∨ a.kind = 3) ∧ a.name.size ≤ 20
theorem FZ {L : List Int} {a : Nat} {out o : List ak} {cur c : Int} {j : Nat} (h : bH L a out cur = .ok (some ((o, c), j))) (ho : ∀ x ∈ out, AU x) : ∀ x ∈ o, AU x := by
 have push : ∀ (l : List ak), (∀ x ∈ l, AU x) → ∀ x ∈ out ++ l, AU x := by
  intro l hl x hx;rcases List.mem_append.1 hx with hx | hx;exact ho x hx;exact hl x hx
 have rune : ∀ x, AU (j7 x) := fun x => ⟨rfl, .inl rfl, Nat.zero_le _⟩;unfold bH at h;split at h
 ·split at h
  ·cases h
  injection h with h; injection h with h; injection h with h1 h2; injection h1 with h1 h3;subst h1;exact ho
 split at h
 ·split at h
  ·cases h
  injection h with h; injection h with h; injection h with h1 h2; injection h1 with h1 h3;subst h1;exact push _ (fun x hx => by rw [List.mem_singleton.1 hx]; exact ⟨rfl, .inr (.inl rfl), Nat.zero_le _⟩)
 split at h
 ·split at h
  ·cases h
  rename_i hn;injection h with h; injection h with h; injection h with h1 h2; injection h1 with h1 h3;subst h1;exact push _ (fun x hx => by rw [List.mem_singleton.1 hx]; exact ⟨rfl, .inr (.inr rfl), jO (kg hn).2.1⟩)
 split at h
 ·split at h
  ·cases h
  rename_i hq;injection h with h; injection h with h; injection h with h1 h2; injection h1 with h1 h3;subst h1;unfold fJ at hq;split at hq
  ·injection hq with hq; injection hq with hq xE;subst hq;refine push _ (fun x hx => ?_);obtain ⟨y, _, rfl⟩ := List.mem_map.1 hx;exact rune y
  cases hq
 split at h
 ·split at h
  ·cases h
  split at h
  ·injection h with h; injection h with h; injection h with h1 h2; injection h1 with h1 h3;subst h1;exact push _ (fun x hx => by rw [List.mem_singleton.1 hx]; exact rune _)
  cases h
 injection h with h; cases h
theorem AB {L : List Int} : ∀ (f i : Nat) (out : List ak) (cur : Int) (v : List ak × Int) (j : Nat), (∀ x ∈ out, AU x) → bJ L f i out cur = .ok (v, j) → ∀ x ∈ v.1, AU x := by
 intro f;induction f with
 | zero => intro i out cur v j _ h; rw [bJ] at h; cases h
 | succ f ih =>
  intro i out cur v j ho h;rw [bJ] at h;cases he : bH L (ai L i) out cur with
  | error e => rw [he] at h; cases h
  | ok q =>
   rw [he] at h;cases q with
   | none => simp only at h; injection h with h; injection h with h1 h2; subst h1; exact ho
   | some q =>
    obtain ⟨⟨o, c⟩, k⟩ := q;simp only at h;split at h
    ·cases h
    exact ih _ _ _ _ _ (FZ he ho) h
theorem jg {L : List Int} {i : Nat} {v : List ak × Int} {j : Nat} (h : bI L i = .ok (v, j)) : ∀ x ∈ v.1, AU x := AB _ _ _ _ _ _ (by simp) h
def U5 (s : bk) : Prop := (∀ x ∈ s.before, AU x) ∧ (∀ x ∈ s.source, AU x) ∧ ∀ x ∈ s.after, AU x
theorem vF {l : List ak} (h : ∀ x ∈ l, AU x) : l.map bZ = l := by
 induction l with
 | nil => rfl
 | cons a l ih => rw [List.map_cons, (h a List.mem_cons_self).1, ih (fun x hx => h x (List.mem_cons_of_mem _ hx))]
theorem U5.bare {s : bk} (h : U5 s) : bh s = s := by
 unfold bh;rw [vF h.1, vF h.2.1, vF h.2.2]
theorem Dq {L : List Int} {i : Nat} {v : bk} {j : Nat} (h : cH L i = .ok (v, j)) : U5 v := by
 have nil : ∀ x ∈ ([] : List ak), AU x := (by simp);unfold cH at h;cases hh : cJ L (decide (pk L (ai L i) = 94)) (if pk L (ai L i) = 94 then ai L i + 1 else ai L i) with
 | error e => rw [hh] at h; cases h
 | ok q =>
  obtain ⟨⟨b, s, c⟩, j1⟩ := q;rw [hh] at h;simp only at h;have h1 : (∀ x ∈ b, AU x) ∧ ∀ x ∈ s, AU x := by
   unfold cJ at hh;cases hi : bI L (if pk L (ai L i) = 94 then ai L i + 1 else ai L i) with
   | error e => rw [hi] at hh; cases hh
   | ok q =>
    obtain ⟨⟨l, c1⟩, j2⟩ := q;rw [hi] at hh;simp only at hh;split at hh
    ·split at hh
     ·cases hh
     cases hi2 : bI L (j2 + 1) with
     | error e => rw [hi2] at hh; cases hh
     | ok q =>
      obtain ⟨⟨l2, c2⟩, j3⟩ := q;rw [hi2] at hh;simp only at hh;injection hh with hh; injection hh with hh J7; injection hh with RN MS; injection MS with RW Pq;subst RN RW;exact ⟨jg hi, jg hi2⟩
    split at hh
    ·cases hh
    injection hh with hh; injection hh with hh J7; injection hh with RN MS; injection MS with RW Pq;subst RN RW;exact ⟨nil, jg hi⟩
  cases ht : dh L j1 with
  | error e => rw [ht] at h; cases h
  | ok q =>
   obtain ⟨⟨a, fin⟩, k⟩ := q;have h2 : ∀ x ∈ a, AU x := by
    unfold dh at ht;split at ht
    ·cases hi : bI L (j1 + 1) with
     | error e => rw [hi] at ht; cases ht
     | ok q =>
      obtain ⟨⟨l, c1⟩, j2⟩ := q;rw [hi] at ht;simp only at ht;split at ht
      ·cases ht
      split at ht
      ·injection ht with ht; injection ht with ht1 ht2; injection ht1 with PN Xx; subst PN; exact jg hi
      injection ht with ht; injection ht with ht1 ht2; injection ht1 with PN Xx; subst PN; exact jg hi
    injection ht with ht; injection ht with ht1 ht2; injection ht1 with PN Xx; subst PN; exact nil
   rw [ht] at h;simp only at h;injection h with h; injection h with h3 h4;subst h3;exact ⟨h1.1, h1.2, h2⟩
theorem yV (l : List (List Int)) : bytesOf (aE l) = (l.map bytesOf).flatMap fun w => w ++ [32] := by
 induction l with
 | nil => rfl
 | cons w l ih =>
  rw [bf, bV, List.map_cons, List.flatMap_cons, ← ih];show bytesOf w ++ bytesOf ([32] ++ aE l) = _;rw [bV, List.append_assoc];rfl
theorem Da {a : ak} (h : gh a = 0) : bytesOf (dU a) = eA a ∧ (dU a).all aU = true := by
 rcases gR h with ⟨h1, hr⟩ | ⟨h2, hs⟩ | ⟨h3, hn⟩
 ·have hq : dU a = bE a.rune := (by unfold dU; rw [if_pos h1]);have hw : eA a = dK a.rune := (by unfold eA; rw [if_pos h1]);rw [hq, hw];exact ⟨mV _ (cI hr).1 (cI hr).2, lQ _ (cI hr).1 (cI hr).2⟩
 ·have hq : dU a = bO a.set := (by unfold dU; rw [h2]; rfl);have hw : eA a = l8 a.set := (by unfold eA; rw [h2]; rfl);rw [hq, hw];have hr := jN hs;refine ⟨?_, pR _ hr.each⟩;rw [rU _ hr.each];unfold l8 cW;rw [if_pos hs]
 have hq : dU a = 36 :: eS a.name := (by unfold dU; rw [h3]; rfl);have hw : eA a = 36 :: a.name.data.toList := (by unfold eA; rw [h3]; rfl);rw [hq, hw];obtain ⟨_, g2, _⟩ := ng (fq hn);refine ⟨?_, ?_⟩
 ·show bytesOf ([36] ++ eS a.name) = _;rw [bV];unfold eS;rw [jf _ g2];rfl
 rw [List.all_cons, List.all_eq_true.2, Bool.and_true];decide;intro d hd;obtain ⟨b, hb, rfl⟩ := List.mem_map.1 hd;have := g2 b hb;simp [aU];omega
theorem um {s : ByteArray} (h : vo s) : bytesOf (eS s) = s.data.toList ∧ (eS s).all aU = true := by
 obtain ⟨_, g2, _⟩ := ng h;refine ⟨jf _ g2, ?_⟩;rw [List.all_eq_true];intro d hd;obtain ⟨b, hb, rfl⟩ := List.mem_map.1 hd;have := g2 b hb;simp [aU];omega
theorem xg {s : af} (hs : cm s = 0) : bytesOf (bO s) = l8 s ∧ (bO s).all aU = true := by
 have hr := jN hs;refine ⟨?_, pR _ hr.each⟩;rw [rU _ hr.each];unfold l8 cW;rw [if_pos hs]
def aS (a : List (List Int)) (b : List Word) : Prop := a.map bytesOf = b ∧ ∀ w ∈ a, w.all aU = true
theorem aS.nil : aS [] [] := ⟨rfl, by simp⟩
theorem aS.app {a c : List (List Int)} {b d : List Word} (h : aS a b) (h2 : aS c d) : aS (a ++ c) (b ++ d) := by
 refine ⟨by rw [List.map_append, h.1, h2.1], fun w hw => ?_⟩;rcases List.mem_append.1 hw with hw | hw;exact h.2 w hw;exact h2.2 w hw
theorem aS.one {w : List Int} {x : Word} (h : bytesOf w = x) (hr : w.all aU = true) : aS [w] [x] := ⟨by rw [List.map_singleton, h], fun y hy => by rw [List.mem_singleton.1 hy]; exact hr⟩
theorem aS.cons {w : List Int} {x : Word} {a : List (List Int)} {b : List Word} (h : bytesOf w = x) (hr : w.all aU = true) (h2 : aS a b) : aS (w :: a) (x :: b) := aS.app (aS.one h hr) h2
theorem CM {aa : Int} : ∀ (l : List ak) (i : Nat), (∀ a ∈ l, gh a = 0) → aS (bC aa i l) (eU aa i l) := by
 have IG : ∀ i : Nat, aS (if (i : Int) = aa then [[124]] else []) (if (i : Int) = aa then [[124]] else []) := by
  intro i;split;exact aS.one (by decide) (by decide);exact aS.nil
 intro l;induction l with
 | nil => intro i _; exact IG i
 | cons a l ih =>
  intro i h;obtain ⟨h1, h2⟩ := Da (h a List.mem_cons_self);exact aS.app (IG i) (aS.cons h1 h2 (ih (i + 1) (fun x hx => h x (List.mem_cons_of_mem _ hx))))
theorem uq {aa : Int} {l : List ak} (h : aM l = 0) : aS (aK l aa) (cN l aa) := CM l 0 (dN h).2
theorem aS.none {a : List (List Int)} {b : List Word} (h : aS a b) : a = [] ↔ b = [] := by rw [← h.1]; simp
theorem Ey {s : bk} (h : aM s.before = 0 ∧ aM s.source = 0 ∧ aM s.after = 0) : aS (fC s) (dB s) := by
 have w1 := uq (aa := -1) h.1;have w2 := uq (aa := s.aa) h.2.1;have w3 := uq (aa := -1) h.2.2;have one : ∀ x : Int, ∀ y : UInt8, bytesOf [x] = [y] → aU x = true → aS [[x]] [[y]] := fun x y h1 h2 => aS.one h1 (by simp [h2]);have ws : aS (if s.start = true then [[94]] else []) (if s.start = true then [[94]] else []) := by
  split;exact one _ _ (by decide) (by decide);exact aS.nil
 have wa := aS.app ws w1;unfold fC dB;simp only;have wb : aS (if (if s.start = true then [[94]] else []) ++ aK s.before (-1) = [] then [] else [[123]]) (if (if s.start = true then [[94]] else []) ++ cN s.before (-1) = [] then [] else [[123]]) := by
  by_cases hn : (if s.start = true then [[94]] else []) ++ aK s.before (-1) = []
  ·rw [if_pos hn, if_pos (wa.none.1 hn)]; exact aS.nil
  rw [if_neg hn, if_neg (fun e => hn (wa.none.2 e))]; exact one _ _ (by decide) (by decide)
 have wc : aS (if s.fin = true ∨ 0 < s.after.length then [125] :: aK s.after (-1) else []) (if s.fin = true ∨ 0 < s.after.length then [125] :: cN s.after (-1) else []) := by
  split;exact aS.cons (by decide) (by decide) w3;exact aS.nil
 have wd : aS (if s.fin = true then [[36]] else []) (if s.fin = true then [[36]] else []) := by
  split;exact one _ _ (by decide) (by decide);exact aS.nil
 exact aS.app (aS.app (aS.app (aS.app wa wb) w2) wc) wd
theorem Ib (d : Int) : bytesOf (qY d) = lX d ∧ (qY d).all aU = true := by
 unfold qY lX;split;exact ⟨by decide, by decide⟩;split;exact ⟨by decide, by decide⟩;exact ⟨by decide, by decide⟩
theorem KV {p : ay} (h : dm p = 0) : aS (ff p) (dM p) := by
 rcases fB h with ⟨h1, hn, hs⟩ | ⟨h3, hs⟩ | ⟨h4, hn⟩ | ⟨h2, hr⟩
 ·have e1 : ff p = [36 :: eS p.name, [61], bO p.set] := (by unfold ff; rw [if_pos h1]);have e2 : dM p = [36 :: p.name.data.toList, [61], l8 p.set] := (by unfold dM; rw [if_pos h1]);rw [e1, e2];obtain ⟨n1, n2⟩ := um (fq hn);obtain ⟨s1, s2⟩ := xg hs;refine aS.cons ?_ ?_ (aS.cons (by decide) (by decide) (aS.one s1 s2))
  ·show bytesOf ([36] ++ eS p.name) = _;rw [bV, n1];rfl
  rw [List.all_cons, n2]; decide
 ·have e1 : ff p = [[58, 58], bO p.set] := (by unfold ff; rw [if_neg (by omega), if_pos h3]);have e2 : dM p = [[58, 58], l8 p.set] := (by unfold dM; rw [if_neg (by omega), if_pos h3]);rw [e1, e2];obtain ⟨s1, s2⟩ := xg hs;exact aS.cons (by decide) (by decide) (aS.one s1 s2)
 ·have e1 : ff p = [[58, 58], eS p.name] := (by unfold ff; rw [if_neg (by omega), if_neg (by omega), if_pos h4]);have e2 : dM p = [[58, 58], p.name.data.toList] := (by unfold dM; rw [if_neg (by omega), if_neg (by omega), if_pos h4]);rw [e1, e2];obtain ⟨n1, n2⟩ := um (q6 hn);exact aS.cons (by decide) (by decide) (aS.one n1 n2)
 have e1 : ff p = fC p.left ++ qY p.dir :: fC p.right := (by unfold ff; rw [if_neg (by omega), if_neg (by omega), if_neg (by omega)]);have e2 : dM p = dB p.left ++ lX p.dir :: dB p.right := (by unfold dM; rw [if_neg (by omega), if_neg (by omega), if_neg (by omega)]);rw [e1, e2];exact aS.app (Ey hr.2.1) (aS.cons (Ib _).1 (Ib _).2 (Ey hr.2.2))
theorem Ll {l : List ay} (h : ∀ p ∈ l, dm p = 0) : bytesOf (iA l) = fG l ∧ (iA l).all aU = true := by
 induction l with
 | nil => exact ⟨rfl, rfl⟩
 | cons a l ih =>
  obtain ⟨i1, i2⟩ := ih (fun x hx => h x (List.mem_cons_of_mem _ hx));obtain ⟨w1, w2⟩ := KV (h a List.mem_cons_self);have e1 : iA (a :: l) = aE (ff a) ++ ([59, 10] ++ iA l) := (by simp [iA, uA]);have e2 : fG (a :: l) = (dM a).flatMap (fun w => w ++ [32]) ++ ([59, 10] ++ fG l) := (by simp [fG, uh]);rw [e1, e2, bV, bV, i1, yV, w1];refine ⟨rfl, ?_⟩;rw [List.all_append, List.all_append, i2];have : (aE (ff a)).all aU = true := by
   rw [List.all_eq_true];intro x hx;unfold aE at hx;obtain ⟨w, hw, PK⟩ := List.mem_flatMap.1 hx;rcases List.mem_append.1 PK with PK | PK;exact List.all_eq_true.1 (w2 w hw) x PK;rw [List.mem_singleton.1 PK]; decide
  rw [this];decide
theorem Gq {l : List ay} (h0 : (bN l).1 = 0) (hlen : (fG l).length ≤ 16000) : iK (cM ⟨(fG l).toArray⟩ 0) = (l.map bL, (0, 0)) := by
 obtain ⟨_, _, hall⟩ := qA h0;obtain ⟨h1, h2⟩ := Ll hall;rw [← h1, (Dp _ h2).1];refine vE h2 h0 ?_;have key : ∀ l : List Int, l.all aU = true → l.length ≤ (bytesOf l).length := by
  intro l;induction l with
  | nil => simp
  | cons x l ih =>
   intro h;simp only [List.all_cons, Bool.and_eq_true] at h;have := ih h.2;show l.length + 1 ≤ (bytesOf ([x] ++ l)).length;rw [bV, List.length_append];have : 1 ≤ (bytesOf [x]).length := by
    simp only [bytesOf, List.flatMap_cons, List.flatMap_nil, List.append_nil];rw [← Lib.runeCells_length];exact (Lib.runeCells_le x).1
   omega
 have := key _ h2;rw [h1] at this;omega
theorem cP.UI {w : World} {X : Nat → Prop} {u : Value} {l : List ak} (h : cP w X u l) (hg : ∀ a ∈ l, AU a) : ∃ A n c, u = .slice A n c ∧ eF w X A n l ∧ n ≤ maxLen := by
 obtain ⟨A, n, c, rfl, ⟨css, h1, h2, h3, h4, h5⟩, _, hn⟩ := h;refine ⟨A, n, c, rfl, ⟨css, h1, h2, fun i a cs ha hc => ?_, h4, h5⟩, by unfold maxLen; omega⟩;obtain ⟨A', n', c', e, g1, g2, g3⟩ := h3 i a cs ha hc;obtain ⟨_, k1, k2⟩ := hg a (List.mem_of_getElem? ha);exact ⟨A', n', c', e, g1, g3, by unfold fN; omega, by unfold maxLen; omega⟩
theorem IJ {L : List Int} {i : Nat} {v : bk} {j : Nat} (h : cH L i = .ok (v, j)) : -1 ≤ v.aa ∧ v.aa ≤ 20 := by
 have one : ∀ {i : Nat} {l : List ak} {c : Int} {j : Nat}, bI L i = .ok ((l, c), j) → -1 ≤ c ∧ c ≤ 20 := fun h => oK _ _ _ _ (Nat.zero_le _) (by decide) (by decide) h;unfold cH at h;cases hh : cJ L (decide (pk L (ai L i) = 94)) (if pk L (ai L i) = 94 then ai L i + 1 else ai L i) with
 | error e => rw [hh] at h; cases h
 | ok q =>
  obtain ⟨⟨b, s, c⟩, j1⟩ := q;rw [hh] at h;simp only at h;have h1 : -1 ≤ c ∧ c ≤ 20 := by
   unfold cJ at hh;cases hi : bI L (if pk L (ai L i) = 94 then ai L i + 1 else ai L i) with
   | error e => rw [hi] at hh; cases hh
   | ok q =>
    obtain ⟨⟨l, c1⟩, j2⟩ := q;rw [hi] at hh;simp only at hh;split at hh
    ·split at hh
     ·cases hh
     cases hi2 : bI L (j2 + 1) with
     | error e => rw [hi2] at hh; cases hh
     | ok q =>
      obtain ⟨⟨l2, c2⟩, j3⟩ := q;rw [hi2] at hh;simp only at hh;injection hh with hh; injection hh with hh J7; injection hh with RN MS; injection MS with RW Pq;subst Pq;exact one hi2
    split at hh
    ·cases hh
    injection hh with hh; injection hh with hh J7; injection hh with RN MS; injection MS with RW Pq;subst Pq;exact one hi
  cases ht : dh L j1 with
  | error e => rw [ht] at h; cases h
  | ok q =>
   obtain ⟨⟨a, fin⟩, k⟩ := q;rw [ht] at h;simp only at h;injection h with h; injection h with h3 h4;subst h3;exact h1
def Ol (w : World) (C : Nat) (A : Option Addr) (n c : Nat) (L : List Int) (r : jz bk) (e : Ending) (w' : World) : Prop :=
  match r with
  | .ok (d, j) => (∃ A1 n1 c1 A2 n2 c2 A3 n3 c3, e = .returned (.agg #[.bool d.start, .bool d.fin, .slice A1 n1 c1, .slice A2 n2 c2, .slice A3 n3 c3, .int .i64 d.aa]) ∧ lz w' (fun b => w.heap.size ≤ b ∧ b ≠ C) d [.bool d.start, .bool d.fin, .slice A1 n1 c1, .slice A2 n2 c2, .slice A3 n3 c3, .int .i64 d.aa]) ∧ av w' C A n c L j ∧ bK w C w'
  | .error (x, p) => e = aZ x p ∧ bK w C w'
theorem GB (w : World) (C : Nat) (A : Option Addr) (n c : Nat) (L : List Int) (i : Nat) (h : av w C A n c L i) (hL : gi L) (hn : n ≤ 100000) :
    Calls Tryz.prog 100 #[.pointer (some ⟨C, 0, none⟩)] w (Ol w C A n c L (cH L i)) := by
 refine (Ld w C A n c L i h hL hn).mono ?_;intro e w' hp;cases hr : cH L i with
 | error e0 => rw [hr] at hp; exact hp
 | ok q =>
  obtain ⟨d, j⟩ := q;rw [hr] at hp;obtain ⟨⟨u1, u2, u3, he, h1, h2, h3⟩, hc, hb⟩ := hp;obtain ⟨g1, g2, g3⟩ := Dq hr;have hk : ag w' (fun b => w.heap.size + 2 ≤ b ∧ b ≠ C) w' (fun b => w.heap.size ≤ b ∧ b ≠ C) := ag.refl (fun b hb => ⟨by have := hb.1; omega, hb.2⟩);obtain ⟨A1, n1, c1, rfl, x1, m1⟩ := (h1.keep hk).UI g1;obtain ⟨A2, n2, c2, rfl, x2, m2⟩ := (h2.keep hk).UI g2;obtain ⟨A3, n3, c3, rfl, x3, m3⟩ := (h3.keep hk).UI g3;have Va := IJ hr;exact ⟨⟨A1, n1, c1, A2, n2, c2, A3, n3, c3, he, A1, n1, c1, A2, n2, c2, A3, n3, c3, rfl, x1, x2, x3, m1, m2, m3, by unfold fN; omega⟩, hc, hb⟩
structure nZ (w : World) (C : Nat) (A : Option Addr) (n c : Nat) (L : List Int) (wr : World) (j : Nat) : Prop where
  cur : gT w.heap.size wr C A n c L j
  but : bK w C wr
  res : au wr w.heap.size 98 #[.int .i64 0, .string ⟨#[]⟩, .slice none 0 0, .int .i64 0, .bool false, .bool false, .slice none 0 0, .slice none 0 0, .slice none 0 0, .int .i64 0, .bool false, .bool false, .slice none 0 0, .slice none 0 0, .slice none 0 0, .int .i64 0]
section
variable {w wr w' : World} {C : Nat} {A : Option Addr} {n c : Nat} {L : List Int} {j j' : Nat}
theorem nZ.step (h : nZ w C A n c L wr j) (hc : av w' C A n c L j') (hb : bK wr C w') : nZ w C A n c L w' j' := by
 have hC := h.cur.lt;exact ⟨h.cur.but hc hb, h.but.trans hb, (hb.2.2.2.2 _ h.res.lt (by omega)).trans h.res⟩
theorem nZ.below (h : nZ w C A n c L wr j) (hb : Below wr.heap.size wr w') : nZ w C A n c L w' j := by
 have bn := hb.mono h.but.1;exact ⟨h.cur.below bn, eW h.but bn, h.res.below hb h.res.lt⟩
theorem nZ.put (h : nZ w C A n c L wr j) {P : Nat} (hP : w.heap.size < P) (k : Nat) (u : Value) : nZ w C A n c L (wr.setCell ⟨P, k, none⟩ u) j := by
 have hb := (bK.set wr P k u);have bn := hb.to (B := w.heap.size) h.but.1 (Nat.le_of_lt hP);exact ⟨h.cur.below bn, eW h.but bn, (hb.2.2.2.2 _ h.res.lt (by omega)).trans h.res⟩
end
theorem uf (w : World) (C : Nat) (A : Option Addr) (n c : Nat) (L : List Int) (i : Nat) (h : av w C A n c L i) : nZ w C A n c L (w.alloc (.cells #[.int .i64 0, .string ⟨#[]⟩, .slice none 0 0, .int .i64 0, .bool false, .bool false, .slice none 0 0, .slice none 0 0, .slice none 0 0, .int .i64 0, .bool false, .bool false, .slice none 0 0, .slice none 0 0, .slice none 0 0, .int .i64 0] 98)) i := by
 have hb : Below w.heap.size w (w.alloc (.cells #[.int .i64 0, .string ⟨#[]⟩, .slice none 0 0, .int .i64 0, .bool false, .bool false, .slice none 0 0, .slice none 0 0, .slice none 0 0, .int .i64 0, .bool false, .bool false, .slice none 0 0, .slice none 0 0, .slice none 0 0, .int .i64 0] 98)) := (Below.refl _ _).alloc (Nat.le_refl _) _;exact ⟨(gT.start h).below hb, bK.below C hb, au.new _ _ _⟩
def tN (w : World) (C b : Nat) : Prop := w.heap.size < b ∧ b ≠ C
theorem lD {w w' : World} {C P : Nat} {t : TypeId} {cs : Array Value} (h : au w P t cs) (hb : bK w C w') (hP : P ≠ C) : au w' P t cs := (hb.2.2.2.2 _ h.lt hP).trans h
def rE (w : World) (C : Nat) (A : Option Addr) (n c : Nat) (L : List Int) (r : jz ay) (e : Ending) (w' : World) : Prop :=
  match r with
  | .ok (d, j) => (∃ cs : List Value, e = .returned (.agg cs.toArray) ∧ cz w' (tN w C) d cs) ∧ av w' C A n c L j ∧ bK w C w'
  | .error (x, p) => e = aZ x p ∧ bK w C w'
theorem tO {w wr : World} {C : Nat} {A : Option Addr} {n c : Nat} {L : List Int} {j : Nat} {d : ay} {vs : List Value} (h : nZ w C A n c L wr j) (hp : cz wr (tN w C) d vs) :
    vs.toArray.all (·.oneCell') = true ∧ av (wr.setRow w.heap.size vs.toArray) C A n c L j ∧ bK w C (wr.setRow w.heap.size vs.toArray) ∧
    au (wr.setRow w.heap.size vs.toArray) w.heap.size 98 vs.toArray ∧ cz (wr.setRow w.heap.size vs.toArray) (tN w C) d vs := by
 have hb := (Ez wr w.heap.size vs.toArray).to (B := w.heap.size) h.but.1 (Nat.le_refl _);have hk : ag wr (tN w C) (wr.setRow w.heap.size vs.toArray) (tN w C) := (Ez wr w.heap.size vs.toArray).keeps (fun b hb => by have := hb.1; omega) (fun _ h _ => h);exact ⟨by rw [Array.all_eq_true_iff_forall_mem]; intro u hu; exact hp.one.2 u (by simpa using hu), (h.cur.below hb).cur, eW h.but hb, Kp h.res, hp.keep hk⟩
theorem jw : (Tryz.prog.info? 98).map (·.size) = some 16 := by kernel_rfl
theorem jh : ∃ fs, Tryz.prog.underlying 98 = some (.struct fs) := ⟨_, Tryz.underlying98⟩
theorem vt (L : List Int) (a : Nat) : (fS L a).size ≤ 4 * L.length := by
 unfold fS;have h1 := runesBytes_size_le (aO L a (aV L a));have h2 : (aO L a (aV L a)).length ≤ L.length := (by unfold aO; rw [List.length_take, List.length_drop]; omega);omega
theorem Fx {L : List Int} {i : Nat} {e : Int × Nat} (h : aW L (i + 1) 58 = .error e) : iz L i = .error e := by unfold iz; rw [h]
theorem yN {L : List Int} {i j a : Nat} {e : Int × Nat} (h : aW L (i + 1) 58 = .ok j) (ha : ai L j = a) (ki : pk L a = 91) (hs : bu L 20 a = .error e) : iz L i = .error e := by unfold iz; rw [h]; simp only; rw [ha, if_pos ki, hs]
theorem Bd {L : List Int} {i j a k : Nat} {s : af} (h : aW L (i + 1) 58 = .ok j) (ha : ai L j = a) (ki : pk L a = 91) (hs : bu L 20 a = .ok (s, k)) : iz L i = .ok (⟨3, cS, s, 0, cB, cB⟩, k) := by unfold iz; rw [h]; simp only; rw [ha, if_pos ki, hs]
theorem F4 {L : List Int} {i j a : Nat} (h : aW L (i + 1) 58 = .ok j) (ha : ai L j = a) (ki : pk L a ≠ 91) : iz L i = (if ku (fS L a) = true then .ok (⟨4, fS L a, [], 0, cB, cB⟩, aV L a) else .error (7, a)) := by unfold iz; rw [h]; simp only; rw [ha, if_neg ki]
theorem yS (w : World) (C : Nat) (A : Option Addr) (n c : Nat) (L : List Int) (i : Nat) (h : av w C A n c L i) (hL : gi L) (hn : n ≤ 100000) (oe : pk L i = 58) :
    Calls Tryz.prog 58 #[.pointer (some ⟨C, 0, none⟩)] w (rE w C A n c L (iz L i)) := by
 have hl := h.len;have HL := Lib.hid hL;have fP := Lib.hid (fun (W : World) (m : Nat) (h : av W C A n c L m) => cG W C A n c L m h);have qR := Lib.hid (fun (W : World) (m : Nat) (h : av W C A n c L m) => i9 W C A n c L m h);have E0 := Lib.hid (fun (W : World) (m : Nat) (r : Int) (h : av W C A n c L m) (hr : r ≠ -1) => fc W C A n c L m r h hr);have hM := Lib.hid (fun (W : World) (m : Nat) (h : av W C A n c L m) => tL 20 1 W C A n c L m rfl (by decide) h hL hn);have NF := Lib.hid (fun (W : World) (m : Nat) (h : av W C A n c L m) (h0 : 0 < n) => pT W C A n c L m h h0);have hi := h.le;have zz := Lib.hid (uf w C A n c L i h);obtain ⟨R, hR⟩ : ∃ R, iz L i = R := ⟨_, rfl⟩;rw [hR];have HR := Lib.hid hR;clear h hL hR;go_enter Tryz.func58, Tryz.ntmps58;go_wp2_with fail;refine (fP.out _ i zz.out.cur.cur).mono ?_;rintro e w1 ⟨rfl, fO, bt⟩;have iI := Lib.hid (zz.out.step fO bt);clear fO bt;have hlt : i < n := (by rw [← hl]; exact bA (by omega));rw [oe];obtain ⟨d1, d2, d3, d4⟩ := iI.out.cur.cur.step hlt;have jk := Lib.hid (iI.out.step d3 d4);have Qq : IntKind.i64.wrap ((i : Int) + 1) = (i : Int) + 1 := wrap_small _ (by omega) (by omega);have nL := Lib.hid (E0.out _ (i + 1) 58 jk.out.cur.cur (by decide));clear d3 d4;cases hnd : aW L (i + 1) 58 with
 | error e0 =>
  obtain ⟨y, p⟩ := e0;have gO := Lib.hid (show R = .error (y, p) from HR.out.symm.trans (Fx hnd));rw [hnd] at nL;clear hnd;go_wp2_with fail;refine nL.out.mono ?_;rintro e w9 ⟨he, dn⟩;unfold aZ at he;subst he;have iR := Lib.hid (jk.out.but.trans dn);clear dn;go_wp2_with fail;rw [gO.out];exact ⟨rfl, rfl, iR.out⟩
 | ok j =>
  have Hv := Lib.hid hnd;rw [hnd] at nL;clear hnd;obtain ⟨a, ha⟩ : ∃ a, ai L j = a := ⟨_, rfl⟩;have HA := Lib.hid ha;clear ha;go_wp2_with fail;refine nL.out.mono ?_;rintro e w3 ⟨rfl, kJ, aJ⟩;have jl := Lib.hid (jk.out.step kJ aJ);clear kJ aJ d1 d2;go_wp2_with fail;refine (qR.out _ j jl.out.cur.cur).mono ?_;rintro e w4 ⟨rfl, ld, hb4⟩;rw [HA.out] at ld;have gE := Lib.hid (jl.out.step ld hb4);clear ld hb4;go_wp2_with fail;refine (fP.out _ a gE.out.cur.cur).mono ?_;rintro e w5 ⟨rfl, kP, eo⟩;have lP := Lib.hid (gE.out.step kP eo);clear kP eo;by_cases ki : pk L a = 91
  ·have Cc := Lib.hid (hM.out _ a lP.out.cur.cur);cases hst : bu L 20 a with
   | error e0 =>
    obtain ⟨y, p⟩ := e0;have gO := Lib.hid (show R = .error (y, p) from HR.out.symm.trans (yN Hv.out HA.out ki hst));rw [hst] at Cc;rw [ki];clear hst ki;go_wp2_with fail;refine Cc.out.mono ?_;rintro e w9 ⟨he, dn⟩;unfold aZ at he;subst he;have iR := Lib.hid (lP.out.but.trans dn);clear dn;go_wp2_with fail;rw [gO.out];exact ⟨rfl, rfl, iR.out⟩
   | ok q =>
    obtain ⟨s, k⟩ := q;have gO := Lib.hid (show R = .ok (⟨3, cS, s, 0, cB, cB⟩, k) from HR.out.symm.trans (Bd Hv.out HA.out ki hst));have hss := (nD HL.out.ok 20 _ _ _ hst).2.size;rw [hst] at Cc;rw [ki];clear hst ki;go_wp2_with fail;refine Cc.out.mono ?_;rintro e w6 ⟨⟨B, m, d, rfl, hr, hd⟩, zO, fE⟩;have QS := lP.out.step zO fE;have hm : m ≤ maxLen := (by have h1 := hr.1; rw [bD] at h1; unfold maxLen; omega);have tT := Lib.hid (show fl w6 (tN w C) 2 B m (ah s) from hr.lift (fun b (h : w5.heap.size ≤ b) => ⟨by have := lP.out.res.lt; omega, by have := lP.out.cur.lt; have := lP.out.but.1; omega⟩));have pz := Lib.hid QS;have wT := Lib.hid (show cz w6 (tN w C) ⟨3, cS, s, 0, cB, cB⟩ [.int .i64 3, .string ⟨#[]⟩, .slice B m d, .int .i64 0, .bool false, .bool false, .slice none 0 0, .slice none 0 0, .slice none 0 0, .int .i64 0, .bool false, .bool false, .slice none 0 0, .slice none 0 0, .slice none 0 0, .int .i64 0] from ⟨B, m, d, [.bool false, .bool false, .slice none 0 0, .slice none 0 0, .slice none 0 0, .int .i64 0], [.bool false, .bool false, .slice none 0 0, .slice none 0 0, .slice none 0 0, .int .i64 0], rfl, tT.out, hm, gV, gV, show fN 3 from ⟨by decide, by decide⟩, show fN 0 from ⟨by decide, by decide⟩, Nat.zero_le _⟩);clear hr hd zO fE QS;obtain ⟨hone, e1, e2, uv, e4⟩ := tO pz.out wT.out;have Cv := Lib.hid e1;have Hh := Lib.hid e2;have Ie := Lib.hid e4;have qu := Lib.hid hone;have NL := Lib.hid uv;have FH := Lib.hid (nZ.res pz.out);clear e1 e2 e4 uv hone
    go_wp2_with (refine wpList_store_row (c := #[.int .i64 0, .string ⟨#[]⟩, .slice none 0 0, .int .i64 0, .bool false, .bool false, .slice none 0 0, .slice none 0 0, .slice none 0 0, .int .i64 0, .bool false, .bool false, .slice none 0 0, .slice none 0 0, .slice none 0 0, .int .i64 0]) (vs := #[.int .i64 3, .string ⟨#[]⟩, .slice B m d, .int .i64 0, .bool false, .bool false, .slice none 0 0, .slice none 0 0, .slice none 0 0, .int .i64 0, .bool false, .bool false, .slice none 0 0, .slice none 0 0, .slice none 0 0, .int .i64 0]) rfl rfl jw rfl qu.out rfl rfl FH.out ?_);(try simp only [Act.put]);refine bodyPost_ret (v := .agg #[.int .i64 3, .string ⟨#[]⟩, .slice B m d, .int .i64 0, .bool false, .bool false, .slice none 0 0, .slice none 0 0, .slice none 0 0, .int .i64 0, .bool false, .bool false, .slice none 0 0, .slice none 0 0, .slice none 0 0, .int .i64 0]) (kL Tryz.results58 rfl jh jw NL.out) rfl ?_;rw [gO.out];exact ⟨⟨_, rfl, Ie.out⟩, Cv.out, Hh.out⟩
  have Z4 : (pk L a == 91) = false := (by rw [beq_eq_false_iff_ne]; exact ki);have c1 := lP.out.cur.cur.ey.cell 1;obtain ⟨T, hT⟩ : ∃ T, fS L a = T := ⟨_, rfl⟩;have HT := Lib.hid hT;have gl := Lib.hid (show R = (if ku T = true then .ok (⟨4, T, [], 0, cB, cB⟩, aV L a) else .error (7, a)) by rw [← HR.out, F4 Hv.out HA.out ki, hT]);clear hT;go_wp2_with fail;refine (NF.out _ a lP.out.cur.cur (by omega)).mono ?_;rintro e w6 ⟨rfl, zO, fE⟩;rw [HT.out];have pz := Lib.hid (lP.out.step zO fE);have hts : T.size ≤ maxLen := by
   rw [← HT.out];have := vt L a;have := pz.out.cur.cur.le;unfold maxLen;omega
  clear zO fE c1;go_upto_region 9 with fail;have hP := pz.out.res.lt;have kV := au.new w6 98 #[.int .i64 4, .string T, .slice none 0 0, .int .i64 0, .bool false, .bool false, .slice none 0 0, .slice none 0 0, .slice none 0 0, .int .i64 0, .bool false, .bool false, .slice none 0 0, .slice none 0 0, .slice none 0 0, .int .i64 0];have jQ : Below w6.heap.size w6 (w6.alloc (.cells #[.int .i64 4, .string T, .slice none 0 0, .int .i64 0, .bool false, .bool false, .slice none 0 0, .slice none 0 0, .slice none 0 0, .int .i64 0, .bool false, .bool false, .slice none 0 0, .slice none 0 0, .slice none 0 0, .int .i64 0] 98)) := (Below.refl _ _).alloc (Nat.le_refl _) _;have O2 := pz.out.below jQ;have Tl : w6.heap.size < (w6.alloc (.cells #[.int .i64 4, .string T, .slice none 0 0, .int .i64 0, .bool false, .bool false, .slice none 0 0, .slice none 0 0, .slice none 0 0, .int .i64 0, .bool false, .bool false, .slice none 0 0, .slice none 0 0, .slice none 0 0, .int .i64 0] 98)).heap.size := (by simp);generalize (w6.alloc (.cells #[.int .i64 4, .string T, .slice none 0 0, .int .i64 0, .bool false, .bool false, .slice none 0 0, .slice none 0 0, .slice none 0 0, .int .i64 0, .bool false, .bool false, .slice none 0 0, .slice none 0 0, .slice none 0 0, .int .i64 0] 98)) = w7 at *;have sV := Lib.hid O2;have QF := Lib.hid kV;have c1 : w7.cell? ⟨w6.heap.size, 1, none⟩ = some (.string T) := kV.cell 1;clear jQ O2 kV;obtain ⟨B9, TT⟩ : ∃ B9, ku T = B9 := ⟨_, rfl⟩;have iR := Lib.hid TT;rw [TT] at gl;clear TT;go_cut [51] (fun v wx => v = .bool (!B9) ∧ Below w7.heap.size w7 wx);case first =>
   go_region_with (first | (go_at_call 97; refine (mO _).mono ?_; rintro e w' ⟨rfl, rfl⟩) | (go_at_call 96; refine (Ay _ T _ iR.out _ (zo (au.new _ _ _))).mono ?_; rintro e w' ⟨rfl, rfl⟩))
   all_goals
     go_wp2_with fail
     go_meet
     exact ⟨rfl, below_drewN ((Below.refl _ _).alloc (Nat.le_refl _) _) _⟩
  obtain ⟨rfl, hbc⟩ := hcut;have wu := Lib.hid (sV.out.below hbc);have NA := QF.out.below hbc Tl;have yz := Lib.hid NA;cases B9 with
  | false =>
   have gO := Lib.hid (show R = .error (7, a) from gl.out);clear hbc c1 NA;go_wp2_with fail;refine (bX 7 a _).mono ?_;rintro e w9 ⟨rfl, rfl⟩;go_wp2_with fail;rw [gO.out];exact ⟨rfl, rfl, wu.out.but⟩
  | true =>
   have gO := Lib.hid (show R = .ok (⟨4, T, [], 0, cB, cB⟩, aV L a) from gl.out);have Sp := wu.out;have wT := Lib.hid (show cz wc (tN w C) ⟨4, T, [], 0, cB, cB⟩ [.int .i64 4, .string T, .slice none 0 0, .int .i64 0, .bool false, .bool false, .slice none 0 0, .slice none 0 0, .slice none 0 0, .int .i64 0, .bool false, .bool false, .slice none 0 0, .slice none 0 0, .slice none 0 0, .int .i64 0] from ⟨none, 0, 0, [.bool false, .bool false, .slice none 0 0, .slice none 0 0, .slice none 0 0, .int .i64 0], [.bool false, .bool false, .slice none 0 0, .slice none 0 0, .slice none 0 0, .int .i64 0], rfl, fl.nil 2, Nat.zero_le _, gV, gV, show fN 4 from ⟨by decide, by decide⟩, show fN 0 from ⟨by decide, by decide⟩, hts⟩);clear hbc Sp c1;obtain ⟨hone, e1, e2, uv, e4⟩ := tO wu.out wT.out;have Cv := Lib.hid e1;have Hh := Lib.hid e2;have Ie := Lib.hid e4;have qu := Lib.hid hone;have NL := Lib.hid uv;have FH := Lib.hid (nZ.res wu.out);have QN := Lib.hid NA;clear e1 e2 e4 uv hone;go_wp2_with (first | (refine wpList_load_row (cs := #[.int .i64 4, .string T, .slice none 0 0, .int .i64 0, .bool false, .bool false, .slice none 0 0, .slice none 0 0, .slice none 0 0, .int .i64 0, .bool false, .bool false, .slice none 0 0, .slice none 0 0, .slice none 0 0, .int .i64 0]) rfl rfl jh jw rfl QN.out ?_) | (refine wpList_store_row (c := #[.int .i64 0, .string ⟨#[]⟩, .slice none 0 0, .int .i64 0, .bool false, .bool false, .slice none 0 0, .slice none 0 0, .slice none 0 0, .int .i64 0, .bool false, .bool false, .slice none 0 0, .slice none 0 0, .slice none 0 0, .int .i64 0]) (vs := #[.int .i64 4, .string T, .slice none 0 0, .int .i64 0, .bool false, .bool false, .slice none 0 0, .slice none 0 0, .slice none 0 0, .int .i64 0, .bool false, .bool false, .slice none 0 0, .slice none 0 0, .slice none 0 0, .int .i64 0]) rfl rfl jw rfl qu.out rfl rfl FH.out ?_));(try simp only [Act.put])
   refine bodyPost_ret (v := .agg #[.int .i64 4, .string T, .slice none 0 0, .int .i64 0, .bool false, .bool false, .slice none 0 0, .slice none 0 0, .slice none 0 0, .int .i64 0, .bool false, .bool false, .slice none 0 0, .slice none 0 0, .slice none 0 0, .int .i64 0]) (kL Tryz.results58 rfl jh jw NL.out) rfl ?_;rw [gO.out];exact ⟨⟨_, rfl, Ie.out⟩, Cv.out, Hh.out⟩
end Go.Proofs.YthnhbcohfoodlaaGreatDoor
