/- RulesText2 + MG -/
import Derived.Test.YthnhbcohfoodlaaGreatDoorZw20
import Derived.Test.YthnhbcohfoodlaaGreatDoorZw5
namespace Go.Proofs.YthnhbcohfoodlaaGreatDoor
open Go.RowKit
theorem sy (P : Int → Prop) (hP : ∀ x, Ag x → P x) (aa : Int) (l : List ak) (i : Nat) (L : List Int) (p : Nat) (X : List Int) (hA : At L p (aE (bC aa i l) ++ X)) (hs : P (pk L (p + (aE (bC aa i l)).length))) : P (pk L p) := by
 have IG : ∀ Y, At L p (124 :: Y) → P (pk L p) := fun Y h => (by rw [h.pk]; exact hP _ (.inr (.inr (.inr rfl))));cases l with
 | nil =>
  unfold bC at hA hs;split at hA;exact IG _ hA;rename_i h;rw [if_neg h] at hs;exact hs
 | cons a l =>
  unfold bC at hA;split at hA;exact IG _ hA;obtain ⟨x, t, e, hh⟩ := oU (a := a);rw [List.nil_append, bf, e] at hA;rw [At.pk hA];exact hP _ (by rcases hh with h | h | h; exact .inl h; exact .inr (.inl h); exact .inr (.inr (.inl h)))
theorem sM (l : List ak) : aK l (-1) = [] ↔ l = [] := by
 unfold aK;cases l with
 | nil => simp [bC]
 | cons a l => simp [bC]
def mA (L : List Int) (p : Nat) : Prop := pk L p = 59 ∨ pk L p = 60 ∨ pk L p = 62
theorem mA.stop {L : List Int} {p : Nat} (h : mA L p) : iJ L p := pL (by rcases h with h | h | h <;> omega)
theorem mA.ne {L : List Int} {p : Nat} (h : mA L p) : pk L p ≠ 123 ∧ pk L p ≠ 125 ∧ pk L p ≠ 94 ∧ pk L p ≠ 36 := by rcases h with h | h | h <;> omega
theorem tV {L : List Int} {q p : Nat} {start : Bool} {B S : List ak} {aa : Int} {X : List Int} (hA : At L p (aE (aK B (-1)) ++ (123 :: 32 :: (aE (aK S aa) ++ X)))) (hs : iJ L (p + (aE (aK B (-1))).length + 2 + (aE (aK S aa)).length))
    (hq : ai L q = p) (hB : aM B = 0) (hS : aM S = 0) (h1 : -1 ≤ aa) (h2 : aa ≤ S.length) : cJ L start q = .ok ((B.map bZ, S.map bZ, aa), p + (aE (aK B (-1))).length + 2 + (aE (aK S aa)).length) := by
 have A2 := At.right hA;have A4 := At.tail (At.tail A2);have vn := dr aa S 0 L _ X A4 hs.1;have r1 := iZ (X := 123 :: 32 :: (aE (aK S aa) ++ X)) hA (pL (.inl A2.pk)) hq hB (by decide) (by omega);have r2 := iZ A4 hs (cn (At.tail A2) vn) hS h1 h2;unfold cJ;rw [r1];simp only;rw [if_pos A2.pk, if_neg (by decide), r2]
theorem DV {L : List Int} {q p : Nat} {S : List ak} {aa : Int} {X : List Int} (hA : At L p (aE (aK S aa) ++ X)) (hs : iJ L (p + (aE (aK S aa)).length)) (nS : pk L (p + (aE (aK S aa)).length) ≠ 123)
    (hq : ai L q = p) (hS : aM S = 0) (h1 : -1 ≤ aa) (h2 : aa ≤ S.length) : cJ L false q = .ok (([], S.map bZ, aa), p + (aE (aK S aa)).length) := by
 unfold cJ;rw [iZ hA hs hq hS h1 h2];simp only;rw [if_neg nS, if_neg (by decide)]
def gB (s : bk) : List (List Int) := (if s.fin = true ∨ 0 < s.after.length then [125] :: aK s.after (-1) else []) ++ (if s.fin = true then [[36]] else [])
theorem xM {L : List Int} {e : Nat} {s : bk} {X : List Int} (hA : At L e (aE (gB s) ++ X)) (hE : mA L (e + (aE (gB s)).length)) (hS : aM s.after = 0) :
    iJ L e ∧ pk L e ≠ 123 ∧ pk L e ≠ 94 ∧ ∃ k, dh L e = .ok ((s.after.map bZ, s.fin), k) ∧ ai L k = e + (aE (gB s)).length := by
 unfold gB at hA hE ⊢;by_cases hf : s.fin = true
 ·rw [if_pos (.inl hf), if_pos hf] at hA hE ⊢;have el : e + (aE ([125] :: aK s.after (-1) ++ [[36]])).length = e + 2 + (aE (aK s.after (-1))).length + 2 := (by simp only [List.cons_append, List.nil_append, bf, dH, nA, List.length_append, List.length_cons, List.length_nil]; omega);rw [el] at hE ⊢;have A1 : At L e (125 :: 32 :: (aE (aK s.after (-1)) ++ (36 :: 32 :: X))) := hA.of (by rw [List.cons_append, bf, dH]; simp [aE]);have A3 := At.tail (At.tail A1);have A4 := At.right A3;have Qy := A4.pk;have hst : iJ L (e + 2 + (aE (aK s.after (-1))).length) := pL (by right; right; right; right; right; exact ⟨Qy, (At.tail A4).pk⟩);have vn := dr (-1) s.after 0 L _ _ A3 hst.1;have hp := A1.pk;refine ⟨pL (.inr (.inl hp)), by omega, by omega, e + 2 + (aE (aK s.after (-1))).length + 1, ?_, ?_⟩
  ·unfold dh;rw [if_pos hp, iZ A3 hst (cn (At.tail A1) vn) hS (by decide) (by omega)];simp only;rw [if_neg (by decide), if_pos Qy, hf]
  exact cn (At.tail A4) hE.stop.1
 rw [if_neg hf, List.append_nil] at hA hE ⊢;have XX : s.fin = false := (by simpa using hf);by_cases ha : 0 < s.after.length
 ·rw [if_pos (.inr ha)] at hA hE ⊢;have el : e + (aE ([125] :: aK s.after (-1))).length = e + 2 + (aE (aK s.after (-1))).length := (by simp only [List.cons_append, List.nil_append, bf, List.length_cons]; omega);rw [el] at hE ⊢;have A1 : At L e (125 :: 32 :: (aE (aK s.after (-1)) ++ X)) := hA.of (by rw [bf]; simp);have A3 := At.tail (At.tail A1);have vn := dr (-1) s.after 0 L _ _ A3 hE.stop.1;have hp := A1.pk;refine ⟨pL (.inr (.inl hp)), by omega, by omega, e + 2 + (aE (aK s.after (-1))).length, ?_, ?_⟩
  ·unfold dh;rw [if_pos hp, iZ A3 hE.stop (cn (At.tail A1) vn) hS (by decide) (by omega)];simp only;rw [if_neg (by decide), if_neg hE.ne.2.2.2, XX]
  exact dA hE.stop.1
 have hn : ¬ (s.fin = true ∨ 0 < s.after.length) := (by rintro (h | h); exact hf h; exact ha h);rw [if_neg hn] at hA hE ⊢;have Ry : mA L e := hE;have e0 : s.after = [] := List.eq_nil_of_length_eq_zero (by omega);refine ⟨Ry.stop, Ry.ne.1, Ry.ne.2.2.1, e, ?_, ?_⟩
 ·unfold dh;rw [if_neg Ry.ne.2.1, e0, XX];rfl
 exact dA Ry.stop.1
theorem nh (s : bk) : fC s = (if s.start = true then [94] :: (aK s.before (-1) ++ [123] :: aK s.source s.aa) else if s.before = [] then aK s.source s.aa else aK s.before (-1) ++ [123] :: aK s.source s.aa) ++ gB s := by
 unfold fC gB;by_cases h : s.start = true
 ·simp [h]
 by_cases hb : s.before = []
 ·have h2 := (sM []).2 rfl;simp [h, hb, h2]
 have : aK s.before (-1) ≠ [] := fun e => hb ((sM _).1 e);simp [h, hb, this]
theorem uS {L : List Int} {p : Nat} {s : bk} {X : List Int} (hA : At L p (aE (fC s) ++ X)) (hE : mA L (p + (aE (fC s)).length)) : eE (pk L p) := by
 rw [nh, dH, List.append_assoc] at hA;rw [nh, dH, List.length_append, ← Nat.add_assoc] at hE;have tl : ∀ e, At L e (aE (gB s) ++ X) → mA L (e + (aE (gB s)).length) → eE (pk L e) := by
  intro e hA hE;unfold gB at hA hE;by_cases hc : s.fin = true ∨ 0 < s.after.length
  ·rw [if_pos hc, List.cons_append, bf] at hA;rw [At.pk (x := 125) hA];exact ⟨rfl, by decide⟩
  rw [if_neg hc, if_neg (fun h => hc (.inl h))] at hE;exact mA.stop hE |>.1
 by_cases h : s.start = true
 ·rw [if_pos h, bf] at hA;rw [At.pk (x := 94) hA];exact ⟨rfl, by decide⟩
 rw [if_neg h] at hA hE;by_cases hb : s.before = []
 ·rw [if_pos hb] at hA hE;exact dr _ _ 0 L p _ hA (tl _ (At.right hA) hE)
 rw [if_neg hb, dH, bf] at hA;have BN : At L p (aE (aK s.before (-1)) ++ (123 :: 32 :: (aE (aK s.source s.aa) ++ (aE (gB s) ++ X)))) := hA.of (by simp);have := (At.right BN).pk;exact dr _ _ 0 L p _ BN (by show eE (pk L (p + (aE (aK s.before (-1))).length)); rw [this]; exact ⟨rfl, by decide⟩)
theorem xK {L : List Int} {q p : Nat} {s : bk} {X : List Int} (hA : At L p (aE (fC s) ++ X)) (hE : mA L (p + (aE (fC s)).length)) (hq : ai L q = p) (hs : aM s.before = 0 ∧ aM s.source = 0 ∧ aM s.after = 0) (h1 : -1 ≤ s.aa) (h2 : s.aa ≤ s.source.length) :
    cH L q = .ok (bh s, p + (aE (fC s)).length) := by
 rw [nh, dH, List.append_assoc] at hA;rw [nh, dH, List.length_append, ← Nat.add_assoc] at hE;rw [nh, dH, List.length_append, ← Nat.add_assoc];generalize hX : aE (gB s) ++ X = Y at hA
 have fin : ∀ (b : List ak) (e : Nat), e + (aE (gB s)).length = p + (aE (if s.start = true then [94] :: (aK s.before (-1) ++ [123] :: aK s.source s.aa) else if s.before = [] then aK s.source s.aa else aK s.before (-1) ++ [123] :: aK s.source s.aa)).length + (aE (gB s)).length →
     b = s.before.map bZ → At L e (aE (gB s) ++ X) → pk L p = 94 ∧ s.start = true ∨ pk L p ≠ 94 ∧ s.start = false → cJ L s.start (if pk L p = 94 then p + 1 else p) = .ok ((b, s.source.map bZ, s.aa), e) →
     cH L q = .ok (bh s, p + (aE (if s.start = true then [94] :: (aK s.before (-1) ++ [123] :: aK s.source s.aa) else if s.before = [] then aK s.source s.aa else aK s.before (-1) ++ [123] :: aK s.source s.aa)).length + (aE (gB s)).length) := by
   intro b e he hb VI hst hh
   rw [← he] at hE ⊢
   obtain ⟨_, _, _, k, t1, t2⟩ := xM VI hE hs.2.2
   have hd : decide (pk L p = 94) = s.start := by rcases hst with ⟨h3, h4⟩ | ⟨h3, h4⟩ <;> rw [h4] <;> simp [h3]
   unfold cH
   rw [hq, hd, hh]
   simp only
   rw [t1]
   simp only
   rw [t2, hb]
   rfl
 have Nk : ∀ e, At L e (aE (gB s) ++ X) → e + (aE (gB s)).length = p + (aE (if s.start = true then [94] :: (aK s.before (-1) ++ [123] :: aK s.source s.aa) else if s.before = [] then aK s.source s.aa else aK s.before (-1) ++ [123] :: aK s.source s.aa)).length + (aE (gB s)).length → iJ L e ∧ pk L e ≠ 123 ∧ pk L e ≠ 94 := by
  intro e VI he;rw [← he] at hE;obtain ⟨g1, g2, g3, _⟩ := xM VI hE hs.2.2;exact ⟨g1, g2, g3⟩
 by_cases h : s.start = true
 ·rw [if_pos h] at hA fin Nk;have A1 : At L p (94 :: 32 :: (aE (aK s.before (-1)) ++ (123 :: 32 :: (aE (aK s.source s.aa) ++ Y)))) := hA.of (by rw [bf, dH, bf]; simp);have A3 := At.tail (At.tail A1);have A4 := At.tail (At.tail (At.right A3));have A5 := At.right A4;rw [← hX] at A5;have he : p + 1 + 1 + (aE (aK s.before (-1))).length + 1 + 1 + (aE (aK s.source s.aa)).length + (aE (gB s)).length = p + (aE ([94] :: (aK s.before (-1) ++ [123] :: aK s.source s.aa))).length + (aE (gB s)).length := by
   rw [bf, dH, bf]; simp; omega
  have hst := Nk _ A5 he;have vn := dr (-1) s.before 0 L _ _ A3 (by show eE (pk L (p + 1 + 1 + (aE (aK s.before (-1))).length)); rw [(At.right A3).pk]; exact ⟨rfl, by decide⟩);have := fin _ _ he rfl A5 (.inl ⟨A1.pk, h⟩) (by
   rw [if_pos A1.pk, h];exact tV A3 hst.1 (cn (At.tail A1) vn) hs.1 hs.2.1 h1 h2)
  rw [if_pos h];exact this
 have hf : s.start = false := (by simpa using h);rw [if_neg h] at hA fin Nk;by_cases hb : s.before = []
 ·rw [if_pos hb] at hA fin Nk;have A5 := At.right hA;rw [← hX] at A5;have hst := Nk _ A5 rfl;have kG : pk L p ≠ 94 := sy (· ≠ 94) (fun x hx => (ij hx).2.2.1) _ _ 0 L p _ hA hst.2.2;have := fin [] _ rfl (by rw [hb]; rfl) A5 (.inr ⟨kG, hf⟩) (by
   rw [if_neg kG, hf];exact DV hA hst.1 hst.2.1 (dA (dr _ _ 0 L p _ hA hst.1.1)) hs.2.1 h1 h2)
  rw [if_neg h, if_pos hb];exact this
 rw [if_neg hb] at hA fin Nk;have A3 : At L p (aE (aK s.before (-1)) ++ (123 :: 32 :: (aE (aK s.source s.aa) ++ Y))) := hA.of (by rw [dH, bf]; simp);have A4 := At.tail (At.tail (At.right A3));have A5 := At.right A4;rw [← hX] at A5;have he : p + (aE (aK s.before (-1))).length + 1 + 1 + (aE (aK s.source s.aa)).length + (aE (gB s)).length = p + (aE (aK s.before (-1) ++ [123] :: aK s.source s.aa)).length + (aE (gB s)).length := by
  rw [dH, bf]; simp; omega
 have hst := Nk _ A5 he;have hp := (At.right A3).pk;have kG : pk L p ≠ 94 := sy (· ≠ 94) (fun x hx => (ij hx).2.2.1) _ _ 0 L p _ A3 (by show pk L (p + (aE (aK s.before (-1))).length) ≠ 94; rw [hp]; decide);have vn := dr (-1) s.before 0 L _ _ A3 (by show eE (pk L (p + (aE (aK s.before (-1))).length)); rw [hp]; exact ⟨rfl, by decide⟩);have := fin _ _ he rfl A5 (.inr ⟨kG, hf⟩) (by
  rw [if_neg kG, hf];exact tV A3 hst.1 (dA vn) hs.1 hs.2.1 h1 h2)
 rw [if_neg h, if_neg hb];exact this
theorem F0 (a : ak) : gh (bZ a) = gh a := by
 unfold gh bZ;by_cases h1 : a.kind = 1
 ·simp [h1]
 by_cases h2 : a.kind = 2
 ·simp [h2]
 by_cases h3 : a.kind = 3
 ·simp [h3]
 simp [h1, h2, h3]
theorem DX (l : List ak) : aM (l.map bZ) = aM l := by
 have key : ∀ l : List ak, gM (l.map bZ) = gM l := by
  intro l;induction l with
  | nil => rfl
  | cons a l ih => rw [List.map_cons, gM, gM, F0, ih]
 unfold aM;rw [List.length_map, key]
theorem xp (s : bk) (eR : Bool) : bG (bh s) eR = bG s eR := by
 have h1 : dL [(bh s).before, (bh s).source, (bh s).after] = dL [s.before, s.source, s.after] := (by simp only [dL, bh, DX]);have h2 : (bh s).source.length = s.source.length := (by simp [bh]);have h3 : (bh s).aa = s.aa := rfl;unfold bG;rw [h1, h2, h3]
theorem tY (l : List ak) : dS (l.map bZ) = dS l := by
 unfold dS;rw [List.all_map];rfl
theorem sF (s : bk) : iU (bh s) = iU s := by unfold iU bh; simp only [List.length_map]
theorem EK (d : Int) (a b : bk) : ck d (bh a) (bh b) = ck d a b := by
 have h1 : dS (bh a).source = dS a.source := tY _;have h2 : dS (bh b).source = dS b.source := tY _;have h3 : (bh a).aa = a.aa := rfl;have h4 : (bh b).aa = b.aa := rfl;have hf : oM d (bh a) (bh b) = oM d a b := (by unfold oM; rw [h1, h2, h3, h4, sF, sF]);unfold ck;rw [xp, xp, hf]
theorem mo {s : bk} {eR : Bool} (h : bG s eR = 0) : -1 ≤ s.aa ∧ s.aa ≤ s.source.length := by
 unfold bG at h;split at h
 ·split at h
  ·cases h
  omega
 rename_i h0; exact absurd h h0
theorem CU {p : ay} (h2 : p.kind = 2) (h : dm p = 0) : (p.dir = 1 ∨ p.dir = 2 ∨ p.dir = 3) ∧ bG p.left (p.dir != 2) = 0 ∧ bG p.right (p.dir != 1) = 0 := by
 unfold dm at h;rw [if_neg (by omega), if_neg (by omega), if_neg (by omega), if_pos h2] at h;unfold ck at h;split at h
 ·cases h
 split at h
 ·rename_i h3 h4;refine ⟨by omega, h4, ?_⟩;split at h;assumption;rename_i h5; exact absurd h h5
 rename_i h3; exact absurd h h3
theorem C0 {L : List Int} {i j : Nat} {v : ay} (h : gA L i = .ok (v, j)) : pk L i ≠ 58 ∧ ¬ (pk L i = 36 ∧ pk L (ai L (aV L (i + 1))) = 61) := by
 have stay : ∀ k : Nat, eE (pk L k) → pk L k ≠ 123 → pk L k ≠ 125 → pk L k ≠ 60 → pk L k ≠ 62 → pk L i ≠ 94 → ai L i = i → (∀ l c, bI L i = .ok ((l, c), k) → False) := by
  intro k hk n1 n2 n3 n4 n5 hi l c hit;have hs : cH L i = .ok (⟨false, false, [], l, [], c⟩, k) := by
   unfold cH;rw [hi, if_neg n5, show decide (pk L i = 94) = false from decide_eq_false n5];unfold cJ;rw [hit];simp only;rw [if_neg n1, if_neg (by decide)];simp only;unfold dh;rw [if_neg n2];simp only;rw [dA hk]
  unfold gA at h;rw [hs] at h;simp only at h;unfold dw at h;rw [if_neg n4, if_neg (fun x => n3 x.1), rj n3] at h;cases h
 refine ⟨fun oe => ?_, ?_⟩
 ·have me : eE (pk L i) := (by rw [oe]; exact ⟨rfl, by decide⟩);have hi := dA me;have hit : bI L i = .ok (([], -1), i) := by
   unfold bI;refine jX hi ⟨me, fun out cur => ?_⟩;unfold bH;rw [oe, if_neg (by decide), if_neg (by decide), if_neg (by rintro ⟨x, _⟩; exact absurd x (by decide)), if_neg (by decide), if_neg (by decide)]
  exact stay i me (by omega) (by omega) (by omega) (by omega) (by omega) hi _ _ hit
 rintro ⟨iX, Xd⟩;have me : eE (pk L i) := (by rw [iX]; exact ⟨rfl, by decide⟩);have hi := dA me;by_cases zx : gQ (pk L (i + 1)) = true
 ·cases hn : fh L (i + 1) with
  | error e =>
   have hit : bI L i = .error e := by
    unfold bI;rw [bJ, hi];unfold bH;rw [iX, if_neg (by decide), if_neg (by decide), if_pos ⟨rfl, zx⟩, hn]
   unfold gA cH at h;rw [hi, if_neg (by omega)] at h;unfold cJ at h;rw [hit] at h;cases h
  | ok q =>
   obtain ⟨s, k⟩ := q;have hk := (kg hn).2.2.2;subst hk;have Ma : eE (pk L (ai L (aV L (i + 1)))) := (by rw [Xd]; exact ⟨rfl, by decide⟩);have hlen : 1 ≤ L.length := (by have := bA (L := L) (i := i) (by omega); omega);obtain ⟨m, hm⟩ : ∃ m, L.length = m + 1 := ⟨L.length - 1, by omega⟩;have hit : bI L i = .ok (([⟨3, 0, [], s⟩], -1), ai L (aV L (i + 1))) := by
    unfold bI;rw [bJ, hi];unfold bH;rw [iX, if_neg (by decide), if_neg (by decide), if_pos ⟨rfl, zx⟩, hn];simp only;rw [if_neg (by simp), hm];refine jX rfl ⟨Ma, fun out cur => ?_⟩;unfold bH;rw [Xd, if_neg (by decide), if_neg (by decide), if_neg (by rintro ⟨x, _⟩; exact absurd x (by decide)), if_neg (by decide), if_neg (by decide)]
   exact stay _ Ma (by omega) (by omega) (by omega) (by omega) (by omega) hi _ _ hit
 have hit : bI L i = .ok (([], -1), i) := by
  unfold bI;refine jX hi ⟨me, fun out cur => ?_⟩;unfold bH;rw [iX, if_neg (by decide), if_neg (by decide), if_neg (fun x => zx x.2), if_neg (by decide), if_neg (by decide)]
 exact stay i me (by omega) (by omega) (by omega) (by omega) (by omega) hi _ _ hit
theorem F6 {L : List Int} {p : Nat} {d : Int} {X : List Int} (hd : d = 1 ∨ d = 2 ∨ d = 3) (hA : At L p (qY d ++ 32 :: X)) : mA L p ∧ dw L p = .ok (d, p + (qY d).length) := by
 rcases hd with rfl | rfl | rfl
 ·have BN : At L p (62 :: 32 :: X) := hA;have hp := BN.pk;refine ⟨.inr (.inr hp), ?_⟩;unfold dw;rw [if_pos hp];rfl
 ·have BN : At L p (60 :: 32 :: X) := hA;have hp := BN.pk;have hp2 := (At.tail BN).pk;refine ⟨.inr (.inl hp), ?_⟩;unfold dw;rw [if_neg (by omega), if_neg (by omega), ir hp];rfl
 have BN : At L p (60 :: 62 :: 32 :: X) := hA;have hp := BN.pk;have hp2 := (At.tail BN).pk;refine ⟨.inr (.inl hp), ?_⟩;unfold dw;rw [if_neg (by omega), if_pos ⟨hp, hp2⟩];rfl
theorem EN {L : List Int} {q : Nat} {p : ay} {X : List Int} (hp : dm p = 0) (hA : At L q (aE (ff p) ++ 59 :: X)) : eE (pk L q) ∧ ∃ j, gI L q = .ok (bL p, j) ∧ ai L j = q + (aE (ff p)).length := by
 have hend := (At.right hA).pk;have me : eE (pk L (q + (aE (ff p)).length)) := (by rw [hend]; exact ⟨rfl, by decide⟩);rcases fB hp with ⟨h1, hn, hs⟩ | ⟨h3, hs⟩ | ⟨h4, hn⟩ | ⟨h2, hr⟩
 ·have eq : ff p = [36 :: eS p.name, [61], bO p.set] := (by unfold ff; rw [if_pos h1]);rw [eq] at hA me ⊢;have pn : At L q (36 :: (eS p.name ++ 32 :: (61 :: 32 :: (bO p.set ++ 32 :: 59 :: X)))) := hA.of (by simp [aE]);have nT := At.tail pn;have wm := At.tail (At.right nT);have Rm := At.right nT;rw [iP] at wm Rm;have Hf := At.tail (At.tail wm);have iX := pn.pk;obtain ⟨w1, w2⟩ := qN (fq hn) nT;have Xh : ai L (q + 1 + p.name.size) = q + 1 + p.name.size + 1 := cn Rm (by rw [wm.pk]; exact ⟨rfl, by decide⟩);have M9 : pk L (q + 1 + p.name.size + 1 + 1 + 1) = 91 := Hf.pk;have QE : ai L (q + 1 + p.name.size + 1 + 1) = q + 1 + p.name.size + 1 + 1 + 1 := cn (At.tail wm) (by rw [M9]; exact ⟨rfl, by decide⟩);have gZ : bu L 20 (q + 1 + p.name.size + 1 + 1 + 1) = .ok (p.set, q + 1 + p.name.size + 1 + 1 + 1 + (bO p.set).length) := by
   obtain ⟨pre, post, e, hl⟩ := Hf;have := vz pre (32 :: 59 :: X ++ post) p.set 19 (jN hs);rw [show pre ++ (bO p.set ++ (32 :: 59 :: X ++ post)) = L by rw [e]; simp, hl] at this;exact this
  have hb : bL p = ⟨1, p.name, p.set, 0, cB, cB⟩ := (by unfold bL; rw [h1]; rfl);have hlen : q + 1 + p.name.size + 1 + 1 + 1 + (bO p.set).length + 1 = q + (aE [36 :: eS p.name, [61], bO p.set]).length := (by simp only [List.cons_append, List.nil_append, bf, nA, List.length_append, List.length_cons, List.length_nil, iP]; omega);refine ⟨by rw [iX]; exact ⟨rfl, by decide⟩, q + 1 + p.name.size + 1 + 1 + 1 + (bO p.set).length, ?_, by rw [cn (At.right Hf) (by rw [hlen]; exact me), hlen]⟩;unfold gI;rw [if_neg (by omega), if_pos ⟨iX, by rw [w1, Xh]; exact wm.pk⟩];unfold mT;rw [xy hn nT];simp only;rw [Xh, ir wm.pk];simp only;rw [QE, gZ, hb]
 ·have eq : ff p = [[58, 58], bO p.set] := (by unfold ff; rw [if_neg (by omega), if_pos h3]);rw [eq] at hA me ⊢;have pn : At L q (58 :: 58 :: 32 :: (bO p.set ++ 32 :: 59 :: X)) := hA.of (by simp [aE]);have nT := At.tail pn;have Hf := At.tail (At.tail nT);have oe := pn.pk;have M9 : pk L (q + 1 + 1 + 1) = 91 := Hf.pk;have QE : ai L (q + 1 + 1) = q + 1 + 1 + 1 := cn (At.tail nT) (by rw [M9]; exact ⟨rfl, by decide⟩);have gZ : bu L 20 (q + 1 + 1 + 1) = .ok (p.set, q + 1 + 1 + 1 + (bO p.set).length) := by
   obtain ⟨pre, post, e, hl⟩ := Hf;have := vz pre (32 :: 59 :: X ++ post) p.set 19 (jN hs);rw [show pre ++ (bO p.set ++ (32 :: 59 :: X ++ post)) = L by rw [e]; simp, hl] at this;exact this
  have hb : bL p = ⟨3, cS, p.set, 0, cB, cB⟩ := (by unfold bL; rw [h3]; rfl);have hlen : q + 1 + 1 + 1 + (bO p.set).length + 1 = q + (aE [[58, 58], bO p.set]).length := (by simp only [List.cons_append, List.nil_append, bf, nA, List.length_append, List.length_cons, List.length_nil]; omega);refine ⟨by rw [oe]; exact ⟨rfl, by decide⟩, q + 1 + 1 + 1 + (bO p.set).length, ?_, by rw [cn (At.right Hf) (by rw [hlen]; exact me), hlen]⟩;unfold gI;rw [if_pos oe];unfold iz;rw [ir nT.pk];simp only;rw [QE, if_pos M9, gZ, hb]
 ·have eq : ff p = [[58, 58], eS p.name] := (by unfold ff; rw [if_neg (by omega), if_neg (by omega), if_pos h4]);rw [eq] at hA me ⊢;have pn : At L q (58 :: 58 :: 32 :: (eS p.name ++ 32 :: 59 :: X)) := hA.of (by simp [aE]);have nT := At.tail pn;have Hf := At.tail (At.tail nT);have oe := pn.pk;obtain ⟨_, _, x, t, ex, g3⟩ := ng (q6 hn);have M9 : pk L (q + 1 + 1 + 1) = x := (by have h := Hf; rw [ex] at h; exact h.pk);have hx : eE x ∧ x ≠ 91 := by
   unfold gQ at g3;simp only [Bool.or_eq_true, Bool.and_eq_true, decide_eq_true_eq] at g3;refine ⟨⟨?_, by omega⟩, by omega⟩;unfold gC;simp;omega
  have QE : ai L (q + 1 + 1) = q + 1 + 1 + 1 := cn (At.tail nT) (by rw [M9]; exact hx.1);obtain ⟨w1, w2⟩ := qN (q6 hn) Hf;have Xb := At.right Hf;rw [iP] at Xb;have hb : bL p = ⟨4, p.name, [], 0, cB, cB⟩ := (by unfold bL; rw [h4]; rfl);have hlen : q + 1 + 1 + 1 + p.name.size + 1 = q + (aE [[58, 58], eS p.name]).length := (by simp only [List.cons_append, List.nil_append, bf, nA, List.length_append, List.length_cons, List.length_nil, iP]; omega);refine ⟨by rw [oe]; exact ⟨rfl, by decide⟩, q + 1 + 1 + 1 + p.name.size, ?_, by rw [cn Xb (by rw [hlen]; exact me), hlen]⟩;unfold gI;rw [if_pos oe];unfold iz;rw [ir nT.pk];simp only;rw [QE, if_neg (by rw [M9]; exact hx.2), w2, w1, if_pos hn, hb]
 have eq : ff p = fC p.left ++ qY p.dir :: fC p.right := (by unfold ff; rw [if_neg (by omega), if_neg (by omega), if_neg (by omega)]);rw [eq] at hA me hend ⊢;obtain ⟨JN, GQ, KZ⟩ := CU h2 hp;have el : (aE (fC p.left ++ qY p.dir :: fC p.right)).length = (aE (fC p.left)).length + (qY p.dir).length + 1 + (aE (fC p.right)).length := (by simp only [dH, bf, List.length_append, List.length_cons]; omega);rw [el, ← Nat.add_assoc, ← Nat.add_assoc, ← Nat.add_assoc] at hend me ⊢;have pn : At L q (aE (fC p.left) ++ (qY p.dir ++ 32 :: (aE (fC p.right) ++ 59 :: X))) := hA.of (by rw [dH, bf]; simp);have nT := At.right pn;have wm := At.right nT;have Rm := At.tail wm;obtain ⟨tE, nY⟩ := F6 JN nT;have Wa : mA L (q + (aE (fC p.left)).length + (qY p.dir).length + 1 + (aE (fC p.right)).length) := .inl hend;have vn := uS pn tE;have Ud := uS Rm Wa;have r1 := xK pn tE (dA vn) (tP GQ) (mo GQ).1 (mo GQ).2;have r2 := xK Rm Wa (cn wm Ud) (tP KZ) (mo KZ).1 (mo KZ).2;have hb : bL p = ⟨2, cS, [], p.dir, bh p.left, bh p.right⟩ := (by unfold bL; rw [h2]; rfl);have OL : dm ⟨2, cS, [], p.dir, bh p.left, bh p.right⟩ = 0 := by
  have : dm ⟨2, cS, [], p.dir, bh p.left, bh p.right⟩ = ck p.dir (bh p.left) (bh p.right) := rfl;rw [this, EK];unfold dm at hp;rw [if_neg (by omega), if_neg (by omega), if_neg (by omega), if_pos h2] at hp;exact hp
 have L4 : gA L q = .ok (bL p, q + (aE (fC p.left)).length + (qY p.dir).length + 1 + (aE (fC p.right)).length) := by
  unfold gA;rw [r1];simp only;rw [nY];simp only;rw [r2];simp only;rw [if_neg (by rw [OL]; decide), hb]
 obtain ⟨f1, f2⟩ := C0 L4;refine ⟨vn, _, ?_, dA me⟩;unfold gI;rw [if_neg f1, if_neg f2];exact L4
theorem Fi {L : List Int} (hL : cA L) : ∀ (l : List ay) (p q f : Nat) (acc : List ay), At L p (iA l) → p + (iA l).length = L.length → ai L q = ai L p → (∀ a ∈ l, dm a = 0) → acc.length + l.length ≤ 200 → l.length < f → gf L f q acc = .ok (acc ++ l.map bL) := by
 intro l;induction l with
 | nil =>
  intro p q f acc hA he hq _ hn hf;obtain ⟨f, rfl⟩ : ∃ g, f = g + 1 := ⟨f - 1, by simp at hf; omega⟩;have hpe : p = L.length := (by simpa [iA] using he);have hpk : pk L p = -1 := mM (by omega);have hsp : ai L p = p := qP (by rw [hpk]; decide) (by rw [hpk]; decide);rw [gf, hq, hsp, hpk, if_pos (by decide)];simp
 | cons a l ih =>
  intro p q f acc hA he hq hall hn hf;obtain ⟨f, rfl⟩ : ∃ g, f = g + 1 := ⟨f - 1, by simp at hf; omega⟩;have pn : At L p (aE (ff a) ++ 59 :: (10 :: iA l)) := hA.of (by simp [iA, uA]);have nT := At.tail (At.right pn);have wm := At.tail nT;obtain ⟨me, j, r1, r2⟩ := EN (hall a List.mem_cons_self) pn;have h59 := (At.right pn).pk;have hlt : p < L.length := (by have := pn.le; simp at this; omega);have hpos : ¬ pk L p < 0 := fun h => (by have := NN hL h; omega);rw [gf, hq, dA me, if_neg hpos, if_neg (by simp at hn; omega), r1];simp only;rw [r2, ir h59];simp only;have := ih (p + (aE (ff a)).length + 1 + 1) (p + (aE (ff a)).length + 1) f (acc ++ [bL a]) wm (by rw [← he]; simp [iA, uA]; omega) (DC nT) (fun x hx => hall x (List.mem_cons_of_mem _ hx)) (by simp at hn ⊢; omega) (by simp at hf; omega);rw [this];simp
theorem vE {l : List ay} (hr : (iA l).all aU = true) (h0 : (bN l).1 = 0) (hlen : (iA l).length ≤ 16000) : iK (iA l) = (l.map bL, (0, 0)) := by
 obtain ⟨hn, _, hall⟩ := qA h0;have hL : cA (iA l) := fun x hx => cI (List.all_eq_true.1 hr x hx);have h2 : l.length ≤ (iA l).length := by
  have key : ∀ l : List ay, l.length ≤ (iA l).length := by
   intro l;induction l with
   | nil => simp
   | cons a l ih => simp only [iA, List.flatMap_cons, uA, List.length_append, List.length_cons] at ih ⊢; omega
  exact key l
 have := Fi hL l 0 0 ((iA l).length + 1) [] ⟨[], [], by simp, rfl⟩ (by simp) rfl hall (by simpa using hn) (by omega);unfold iK;rw [if_neg (by omega), this];rfl
def MG (w : World) (l : List ak) (aa : Int) (n : Nat) (out i : Value) (wr : World) : Prop :=
  ∃ (k : Nat) (W : List (List UInt8)), k ≤ n ∧ i = .int .i64 k ∧ eY wr w.heap.size out W ∧ cN l aa = W ++ eU aa k (l.drop k) ∧ W.length ≤ 2 * k ∧ Below w.heap.size w wr
end Go.Proofs.YthnhbcohfoodlaaGreatDoor
