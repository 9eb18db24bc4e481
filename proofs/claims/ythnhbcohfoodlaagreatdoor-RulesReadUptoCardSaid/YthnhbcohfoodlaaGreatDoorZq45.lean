/- WkSt + WkSideFr -/
import Derived.Test.YthnhbcohfoodlaaGreatDoorZq44
import Derived.Test.YthnhbcohfoodlaaGreatDoorZq38
namespace Go.Proofs.YthnhbcohfoodlaaGreatDoor
open Go.RowKit
def cD (lo : Nat) (w : World) (C : Nat) (A : Option Addr) (n c : Nat) (L : List Int) (i : Int) (r : Except (Int × Nat) Nat) : Prop :=
  ∃ x p : Int, iT lo w C A n c L i x p ∧ (match r with | .ok j => x = 0 ∧ i = (j : Int) ∧ j ≤ n | .error (y, q) => x = y ∧ p = (q : Int) ∧ y ≠ 0)
def ep (L : List Int) (r : Except (Int × Nat) Nat) (k : Nat) : Int := match r with | .ok j => pk L (j + k) | .error _ => -1
def Dn (r : Except (Int × Nat) Nat) : Bool := match r with | .ok _ => true | .error _ => false
def EE (L : List Int) (r : Except (Int × Nat) Nat) : ByteArray := match r with | .ok j => cI L j | .error _ => ⟨#[]⟩
def uz (r : Except (Int × Nat) Nat) (x : Int) (q : Nat) : Except (Int × Nat) Nat := match r with | .ok _ => .error (x, q) | .error e => .error e
section
variable {lo : Nat} {w w' : World} {C : Nat} {A : Option Addr} {n c : Nat} {L : List Int} {i : Int} {r : Except (Int × Nat) Nat}
theorem cD.below (h : cD lo w C A n c L i r) (hb : Below lo w w') : cD lo w' C A n c L i r := by
 obtain ⟨x, p, h1, h2⟩ := h;exact ⟨x, p, h1.below hb, h2⟩
theorem cD.lt (h : cD lo w C A n c L i r) : C < lo := by obtain ⟨x, p, h1, h2⟩ := h; exact h1.lt
theorem cD.c1 (h : cD lo w C A n c L i r) : w.cell? ⟨C, 1, none⟩ = some (.int .i64 i) := by obtain ⟨x, p, h1, h2⟩ := h; exact h1.wk.c1
theorem cD.fz (h : cD lo w C A n c L i r) (k : Nat) : w.frozen? ⟨C, k, none⟩ = false := by obtain ⟨x, p, h1, h2⟩ := h; exact h1.wk.fz k
theorem cD.len (h : cD lo w C A n c L i r) : L.length = n := by obtain ⟨x, p, h1, h2⟩ := h; exact h1.wk.len
theorem cD.good {j : Nat} (h : cD lo w C A n c L i (.ok j)) : ∃ p, i = (j : Int) ∧ j ≤ n ∧ iT lo w C A n c L (j : Int) 0 p := by
 obtain ⟨x, p, h1, rfl, rfl, h4⟩ := h;exact ⟨p, rfl, h4, h1⟩
theorem cD.yT {x : Int} {q : Nat} (h : cD lo w C A n c L i (.error (x, q))) : x ≠ 0 ∧ iT lo w C A n c L i x q := by
 obtain ⟨x', p, h1, rfl, rfl, h4⟩ := h;exact ⟨h4, h1⟩
theorem cD.gu {j : Nat} {p : Int} (h : iT lo w C A n c L (j : Int) 0 p) (hj : j ≤ n) : cD lo w C A n c L j (.ok j) := ⟨0, p, h, rfl, rfl, hj⟩
theorem cD.gV {x : Int} {q : Nat} (h : iT lo w C A n c L i x q) (hx : x ≠ 0) : cD lo w C A n c L i (.error (x, q)) := ⟨x, q, h, rfl, rfl, hx⟩
theorem cD.step {j : Nat} (h : cD lo w C A n c L i (.ok j)) (hj : j < n) :
    w.cell? ⟨C, 1, none⟩ = some (.int .i64 j) ∧ w.frozen? ⟨C, 1, none⟩ = false ∧ cD lo (w.setCell ⟨C, 1, none⟩ (.int .i64 ((j : Int) + 1))) C A n c L ((j : Int) + 1) (.ok (j + 1)) ∧ aF w C (w.setCell ⟨C, 1, none⟩ (.int .i64 ((j : Int) + 1))) := by
 obtain ⟨p, rfl, h2, h3⟩ := h.good;obtain ⟨d1, d2, d3, d4⟩ := h3.wk.step;refine ⟨d1, d2, ?_, d4⟩;have := cD.gu (j := j + 1) (lo := lo) (p := p) (by have := h3.but d3 d4; rwa [show ((j : Int) + 1) = ((j + 1 : Nat) : Int) by omega] at this) hj;rwa [show (((j + 1 : Nat)) : Int) = (j : Int) + 1 by omega] at this
theorem cD.mU {k : Nat} {x : Int} (h : cD lo w C A n c L i r) (hs : ep L r k = x) (hx : 0 ≤ x) : ∃ j, r = .ok j ∧ pk L (j + k) = x ∧ i = (j : Int) ∧ j + k < n := by
 cases r with
 | error e => simp only [ep] at hs; omega
 | ok j =>
  obtain ⟨p, h1, h2, h3⟩ := h.good;have zX : pk L (j + k) = x := hs;have := aS (L := L) (i := j + k) (by omega);exact ⟨j, rfl, zX, h1, by rw [← h3.wk.len]; exact this⟩
end
section
variable (lo : Nat) (w : World) (C : Nat) (A : Option Addr) (n c : Nat) (L : List Int) (i : Int) (r : Except (Int × Nat) Nat) (h : cD lo w C A n c L i r)
include h
theorem Eh : Calls Tryz.prog 43 #[.pointer (some ⟨C, 0, none⟩)] w fun e w' => e = .returned (.bool (Dn r)) ∧ w' = w := by
 cases r with
 | ok j => obtain ⟨p, h1, h2, h3⟩ := h.good; exact cJ w C A n c L j p h3.wk
 | error e => obtain ⟨x, q⟩ := e; obtain ⟨h1, h2⟩ := h.yT; exact bE w C A n c L i x q h2.wk h1
theorem pH (k : Nat) (hk : k ≤ 1) : Calls Tryz.prog 61 #[.pointer (some ⟨C, 0, none⟩), .int .i64 k] w fun e w' => e = .returned (.int .i32 (ep L r k)) ∧ cD lo w' C A n c L i r ∧ aF w C w' := by
 cases r with
 | ok j =>
  obtain ⟨p, rfl, h2, h3⟩ := h.good;refine (qS w C A n c L j k p h3.wk h2 (by omega)).mono ?_;rintro e w1 ⟨rfl, m, rfl⟩;exact ⟨rfl, .gu (h3.but (h3.wk.drewN m) (aF.drewN w C m)) h2, aF.drewN w C m⟩
 | error e =>
  obtain ⟨x, q⟩ := e;obtain ⟨h1, h2⟩ := h.yT;refine (eY w C A n c L i x q k h2.wk h1).mono ?_;rintro e w1 ⟨rfl, hc, hb⟩;exact ⟨rfl, .gV (h2.but hc hb) h1, hb⟩
theorem oZ (x : Int) (q : Int) (qn : Nat) (hx : x ≠ 0) (hq : ∀ j, r = .ok j → q = (qn : Int)) : Calls Tryz.prog 44 #[.pointer (some ⟨C, 0, none⟩), .int .i64 x, .int .i64 q] w fun e w' => e = .returned (.tuple #[]) ∧ cD lo w' C A n c L i (uz r x qn) ∧ aF w C w' := by
 cases r with
 | ok j =>
  obtain ⟨p, rfl, h2, h3⟩ := h.good;refine (dY w C A n c L j p x q h3.wk).mono ?_;rintro e w1 ⟨rfl, hc, hb⟩;rw [hq j rfl] at hc;exact ⟨rfl, .gV (h3.but hc hb) hx, hb⟩
 | error e =>
  obtain ⟨y, p⟩ := e;obtain ⟨h1, h2⟩ := h.yT;refine (eK w C A n c L i y p x q h2.wk h1).mono ?_;rintro e w1 ⟨rfl, rfl⟩;exact ⟨rfl, .gV h2 h1, aF.refl _ _⟩
theorem rG : Calls Tryz.prog 60 #[.pointer (some ⟨C, 0, none⟩)] w fun e w' => e = .returned (.tuple #[]) ∧ (∃ i', cD lo w' C A n c L i' (r.map (aj L))) ∧ aF w C w' := by
 cases r with
 | ok j =>
  obtain ⟨p, rfl, h2, h3⟩ := h.good;refine (qJ w C A n c L j p h3.wk h2).mono ?_;rintro e w1 ⟨rfl, hc, hb⟩;exact ⟨rfl, ⟨_, .gu (h3.but hc hb) (by rw [← h3.wk.len]; exact gn (by rw [h3.wk.len]; exact h2))⟩, hb⟩
 | error e =>
  obtain ⟨y, q⟩ := e;obtain ⟨h1, h2⟩ := h.yT;refine (ye w C A n c L i y q h2.wk h1).mono ?_;rintro e w1 ⟨rfl, hc, hb⟩;exact ⟨rfl, ⟨_, .gV (h2.but hc hb) h1⟩, hb⟩
theorem wg (ch : Int) (hr : ch ≠ -1) : Calls Tryz.prog 63 #[.pointer (some ⟨C, 0, none⟩), .int .i32 ch] w fun e w' => e = .returned (.tuple #[]) ∧ (∃ i', cD lo w' C A n c L i' (r.bind fun j => aH L j ch)) ∧ aF w C w' := by
 cases r with
 | ok j =>
  obtain ⟨p, rfl, h2, h3⟩ := h.good;refine (jI w C A n c L j p ch h3.wk h2 hr).mono ?_;rintro e w1 ⟨rfl, hm, hb⟩;refine ⟨rfl, ?_, hb⟩;show ∃ i', cD lo w1 C A n c L i' (aH L j ch);cases hn : aH L j ch with
  | ok k => rw [hn] at hm; exact ⟨_, .gu (h3.but hm.2 hb) hm.1⟩
  | error e => obtain ⟨x, q⟩ := e; rw [hn] at hm; obtain ⟨h4, i1, h5⟩ := hm; exact ⟨i1, .gV (h3.but h5 hb) h4⟩
 | error e =>
  obtain ⟨y, q⟩ := e;obtain ⟨h1, h2⟩ := h.yT;refine (eJ w C A n c L i y q ch h2.wk h1 hr).mono ?_;rintro e w1 ⟨rfl, hc, hb⟩;exact ⟨rfl, ⟨_, .gV (h2.but hc hb) h1⟩, hb⟩
theorem Ak : Calls Tryz.prog 102 #[.pointer (some ⟨C, 0, none⟩)] w fun e w' => e = .returned (.string (EE L r)) ∧ (∃ i', cD lo w' C A n c L i' (r.map (aI L))) ∧ aF w C w' := by
 cases r with
 | ok j =>
  obtain ⟨p, rfl, h2, h3⟩ := h.good;refine (qH w C A n c L j p h3.wk h2).mono ?_;rintro e w1 ⟨rfl, _, hc, hb⟩;exact ⟨rfl, ⟨_, .gu (h3.but hc hb) (by rw [← h3.wk.len]; exact dZ (by rw [h3.wk.len]; exact h2))⟩, hb⟩
 | error e =>
  obtain ⟨y, q⟩ := e;obtain ⟨h1, h2⟩ := h.yT;refine (xV w C A n c L i y q h2.wk h1).mono ?_;rintro e w1 ⟨rfl, hc, hb⟩;exact ⟨rfl, ⟨_, .gV (h2.but hc hb) h1⟩, hb⟩
theorem Dl (hL : cA L) (hn : n ≤ 100000) : Calls Tryz.prog 42 #[.pointer (some ⟨C, 0, none⟩), .int .i64 1] w fun e w' =>
    ∃ B m d s, e = .returned (.slice B m d) ∧ di w' (fun b => w.heap.size ≤ b) 2 B m (ak s) ∧ m ≤ d ∧ aK s ∧ aF w C w' ∧ ∃ i' r', cD lo w' C A n c L i' r' ∧ r.bind (aR L 20) = r'.map (fun j => (s, j)) := by
 cases r with
 | ok j =>
  obtain ⟨p, rfl, h2, h3⟩ := h.good;refine (Em 20 1 w C A n c L j p rfl (by decide) h3.wk h2 hL hn).mono ?_;intro e w1 hp;obtain ⟨B, m, d, s, he, g1, g2, g3, g4, g5⟩ := G3 hp h3;refine ⟨B, m, d, s, he, g1, g2, g3, g4, ?_⟩;rcases g5 with ⟨k, k1, k2, k3⟩ | ⟨x, q, i1, k1, k2, k3⟩;exact ⟨k, .ok k, .gu k3 k2, k1⟩;exact ⟨i1, .error (x, q), .gV k3 k2, k1⟩
 | error e =>
  obtain ⟨y, q⟩ := e;obtain ⟨h1, h2⟩ := h.yT;refine (Ad w C A n c L i y q h2.wk h1).mono ?_;rintro e w1 ⟨rfl, hc, hb⟩;exact ⟨none, 0, 0, [], rfl, ⟨rfl, fun h => absurd h (by omega)⟩, Nat.le_refl _, dR, hb, i, .error (y, q), .gV (h2.but hc hb) h1, rfl⟩
theorem Gt (hL : cA L) (hn : n ≤ 100000) : Calls Tryz.prog 148 #[.pointer (some ⟨C, 0, none⟩)] w fun e w' =>
    ∃ v l cu, e = .returned (.tuple #[v, .int .i64 cu]) ∧ dI w.heap.size C w' v l ∧ l.length ≤ 100100 ∧ -1 ≤ cu ∧ cu ≤ 100100 ∧ aF w C w' ∧ ∃ i' r', cD lo w' C A n c L i' r' ∧ r.bind (bA L) = r'.map (fun j => ((l, cu), j)) ∧ ∀ j, r' = .ok j → l.length ≤ 20 := by
 cases r with
 | ok j =>
  obtain ⟨p, rfl, h2, h3⟩ := h.good;refine (DJ w C A n c L j p h3.wk h2 hL hn).mono ?_;rintro e w1 ⟨v, l, cu, he, g1, g2, g3, g4, g5, g6⟩;refine ⟨v, l, cu, he, g1, g2, g3, g4, g5, ?_⟩;rcases g6 with ⟨k, k1, k2, k3⟩ | ⟨x, q, i1, k1, k2, k3⟩;exact ⟨k, .ok k, .gu (h3.but k3.wk g5) k2, k1.1, fun _ _ => k1.2⟩;exact ⟨i1, .error (x, q), .gV (h3.but k3.wk g5) k2, k1, fun _ h => by cases h⟩
 | error e =>
  obtain ⟨y, q⟩ := e;obtain ⟨h1, h2⟩ := h.yT;refine (vB w C A n c L i y q h2.wk h1).mono ?_;rintro e w1 ⟨rfl, rfl⟩;exact ⟨_, [], -1, rfl, dI.nil _ _ _, by simp, by decide, by decide, aF.refl _ _, i, .error (y, q), .gV h2 h1, rfl, fun _ h => by cases h⟩
end
def aJ (w : World) (X : Nat → Prop) (u : Value) (l : List aE) : Prop := ∃ A n c, u = .slice A n c ∧ eE (bX w X) w X 4 A n l ∧ n ≤ c ∧ n ≤ 200000
theorem aJ.keep {w w' : World} {X X' : Nat → Prop} (hk : aC w X w' X') {u : Value} {l : List aE} (h : aJ w X u l) : aJ w' X' u l := by
 obtain ⟨A, n, c, e, h1, h2⟩ := h;exact ⟨A, n, c, e, h1.keep hk (bX.keep hk), h2⟩
theorem aJ.nil (w : World) (X : Nat → Prop) : aJ w X (.slice none 0 0) [] := ⟨none, 0, 0, rfl, ⟨[], rfl, rfl, by simp, by simp, ⟨by simp, fun h => absurd h (Nat.lt_irrefl 0)⟩⟩, Nat.le_refl _, Nat.zero_le _⟩
theorem aJ.of {w : World} {lo DH C : Nat} {v : Value} {l : List aE} (h : dI lo C w v l) (hn : l.length ≤ 100100) (hlo : DH ≤ lo) (hC : C < lo) : aJ w (fun b => DH ≤ b ∧ b ≠ C) v l := by
 obtain ⟨A, c, rfl, hc⟩ := h.form;have hh := h;obtain ⟨css, g1, g2, g3, g4⟩ := hh;refine ⟨A, _, c, rfl, f5.done h (bX.keep (aC.refl (fun b hb => ⟨Nat.le_trans hlo hb.1, hb.2.1⟩))) (fun b hb => ?_), hc, by omega⟩;have := (eB g4 hb).1;exact ⟨by omega, by omega⟩
theorem aJ.form {w : World} {X : Nat → Prop} {u : Value} {l : List aE} (h : aJ w X u l) : ∃ A n c, u = .slice A n c ∧ l.length = n := by
 obtain ⟨A, n, c, e, h1, _⟩ := h;exact ⟨A, n, c, e, h1.len⟩
theorem aJ.step {wr w' : World} {C : Nat} {u : Value} {l : List aE} {lo : Nat} (h : aJ wr (fun b => lo ≤ b ∧ b ≠ C) u l) (hb : aF wr C w') : aJ w' (fun b => lo ≤ b ∧ b ≠ C) u l := h.keep (hb.keeps (fun _ h => h.2) (fun _ h _ => h))
theorem aJ.put {wr : World} {C : Nat} {u x : Value} {l : List aE} {lo k : Nat} (h : aJ wr (fun b => lo + 2 ≤ b ∧ b ≠ C) u l) : aJ (wr.setCell ⟨lo + 1, k, none⟩ x) (fun b => lo + 2 ≤ b ∧ b ≠ C) u l :=
  h.keep (aC.setCell x (fun b hb => by have := hb.1; show b ≠ lo + 1; omega) (fun _ h _ => h))
structure oO (w : World) (C : Nat) (A : Option Addr) (n c : Nat) (L : List Int) (wr : World) (i : Int) (r : Except (Int × Nat) Nat) (cs : Array Value) : Prop where
  cur : cD w.heap.size wr C A n c L i r
  but : aF w C wr
  box : aM wr (w.heap.size + 1) 96 cs
  res : aM wr w.heap.size 96 #[.bool false, .bool false, .slice none 0 0, .slice none 0 0, .slice none 0 0, .int .i64 0]
section
variable {w wr w' : World} {C : Nat} {A : Option Addr} {n c : Nat} {L : List Int} {i i' : Int} {r r' : Except (Int × Nat) Nat} {cs : Array Value}
theorem oO.step (h : oO w C A n c L wr i r cs) (hc : cD w.heap.size w' C A n c L i' r') (hb : aF wr C w') : oO w C A n c L w' i' r' cs := by
 have hC := h.cur.lt;exact ⟨hc, h.but.trans hb, (hb.2.2.2.2 _ h.box.lt (by omega)).trans h.box, (hb.2.2.2.2 _ h.res.lt (by omega)).trans h.res⟩
theorem oO.put (h : oO w C A n c L wr i r cs) (k : Nat) (u : Value) : oO w C A n c L (wr.setCell ⟨w.heap.size + 1, k, none⟩ u) i r (cs.setIfInBounds k u) := by
 have hb := (aF.set wr (w.heap.size + 1) k u);have aU := hb.to (B := w.heap.size) h.but.1 (Nat.le_succ _);exact ⟨h.cur.below aU, bl h.but aU, h.box.put k u, (hb.2.2.2.2 _ h.res.lt (by omega)).trans h.res⟩
end
theorem Ez (w : World) (C : Nat) (A : Option Addr) (n c : Nat) (L : List Int) (i : Int) (r : Except (Int × Nat) Nat) (h : cD w.heap.size w C A n c L i r) : oO w C A n c L ((w.alloc (.cells #[.bool false, .bool false, .slice none 0 0, .slice none 0 0, .slice none 0 0, .int .i64 0] 96)).alloc (.cells #[.bool false, .bool false, .slice none 0 0, .slice none 0 0, .slice none 0 0, .int .i64 0] 96)) i r #[.bool false, .bool false, .slice none 0 0, .slice none 0 0, .slice none 0 0, .int .i64 0] := by
 have hb : Below w.heap.size w ((w.alloc (.cells #[.bool false, .bool false, .slice none 0 0, .slice none 0 0, .slice none 0 0, .int .i64 0] 96)).alloc (.cells #[.bool false, .bool false, .slice none 0 0, .slice none 0 0, .slice none 0 0, .int .i64 0] 96)) := ((Below.refl _ _).alloc (Nat.le_refl _) _).alloc (by simp) _;refine ⟨h.below hb, aF.below C hb, ?_, (aM.new w _ _).alloc _⟩;have := aM.new (w.alloc (.cells #[.bool false, .bool false, .slice none 0 0, .slice none 0 0, .slice none 0 0, .int .i64 0] 96)) 96 #[.bool false, .bool false, .slice none 0 0, .slice none 0 0, .slice none 0 0, .int .i64 0];simpa using this
theorem F9 {w wr : World} {C : Nat} {A : Option Addr} {n c : Nat} {L : List Int} {i : Int} {r : Except (Int × Nat) Nat} {cs : Array Value} (h : oO w C A n c L wr i r cs) (v0 v1 v2 v3 v4 v5 : Value) :
    cD w.heap.size ((((((wr.setCell ⟨w.heap.size, 0, none⟩ v0).setCell ⟨w.heap.size, 1, none⟩ v1).setCell ⟨w.heap.size, 2, none⟩ v2).setCell ⟨w.heap.size, 3, none⟩ v3).setCell ⟨w.heap.size, 4, none⟩ v4).setCell ⟨w.heap.size, 5, none⟩ v5) C A n c L i r ∧
    aF w C ((((((wr.setCell ⟨w.heap.size, 0, none⟩ v0).setCell ⟨w.heap.size, 1, none⟩ v1).setCell ⟨w.heap.size, 2, none⟩ v2).setCell ⟨w.heap.size, 3, none⟩ v3).setCell ⟨w.heap.size, 4, none⟩ v4).setCell ⟨w.heap.size, 5, none⟩ v5) ∧
    aM ((((((wr.setCell ⟨w.heap.size, 0, none⟩ v0).setCell ⟨w.heap.size, 1, none⟩ v1).setCell ⟨w.heap.size, 2, none⟩ v2).setCell ⟨w.heap.size, 3, none⟩ v3).setCell ⟨w.heap.size, 4, none⟩ v4).setCell ⟨w.heap.size, 5, none⟩ v5) w.heap.size 96 #[v0, v1, v2, v3, v4, v5] ∧
    aC wr (fun b => w.heap.size + 2 ≤ b ∧ b ≠ C) ((((((wr.setCell ⟨w.heap.size, 0, none⟩ v0).setCell ⟨w.heap.size, 1, none⟩ v1).setCell ⟨w.heap.size, 2, none⟩ v2).setCell ⟨w.heap.size, 3, none⟩ v3).setCell ⟨w.heap.size, 4, none⟩ v4).setCell ⟨w.heap.size, 5, none⟩ v5) (fun b => w.heap.size + 2 ≤ b ∧ b ≠ C) := by
 have hz := h.but.1;have one : ∀ (W : World) (k : Nat) (v : Value), Below w.heap.size wr W → w.heap.size ≤ W.heap.size → Below w.heap.size wr (W.setCell ⟨w.heap.size, k, none⟩ v) := fun W k v hb hs => hb.trans ((aF.set W w.heap.size k v).to hs (Nat.le_refl _));have kp : ∀ (W : World) (k : Nat) (v : Value), aC W (fun b => w.heap.size + 2 ≤ b ∧ b ≠ C) (W.setCell ⟨w.heap.size, k, none⟩ v) (fun b => w.heap.size + 2 ≤ b ∧ b ≠ C) := fun W k v => aC.setCell v (fun b hb => by have := hb.1; show b ≠ w.heap.size; omega) (fun _ h _ => h);have b0 := one wr 0 v0 (Below.refl _ _) hz;have b1 := one _ 1 v1 b0 (by simpa using hz);have b2 := one _ 2 v2 b1 (by simpa using hz);have b3 := one _ 3 v3 b2 (by simpa using hz);have b4 := one _ 4 v4 b3 (by simpa using hz);have b5 := one _ 5 v5 b4 (by simpa using hz);have r0 := h.res.put 0 v0;have r1 := r0.put 1 v1;have r2 := r1.put 2 v2;have r3 := r2.put 3 v3;have r4 := r3.put 4 v4;have r5 := r4.put 5 v5;exact ⟨h.cur.below b5, bl h.but b5, r5, (((((kp _ 0 v0).trans (kp _ 1 v1)).trans (kp _ 2 v2)).trans (kp _ 3 v3)).trans (kp _ 4 v4)).trans (kp _ 5 v5)⟩
def IP (w : World) (C : Nat) (A : Option Addr) (n c : Nat) (L : List Int) (R : fH bp) (e : Ending) (w' : World) : Prop :=
  ∃ d u1 u2 u3, e = .returned (.agg #[.bool d.start, .bool d.fin, u1, u2, u3, .int .i64 d.af]) ∧ aJ w' (fun b => w.heap.size + 2 ≤ b ∧ b ≠ C) u1 d.before ∧ aJ w' (fun b => w.heap.size + 2 ≤ b ∧ b ≠ C) u2 d.source ∧ aJ w' (fun b => w.heap.size + 2 ≤ b ∧ b ≠ C) u3 d.after ∧
    aF w C w' ∧ -1 ≤ d.af ∧ d.af ≤ 100100 ∧ ∃ i r, cD w.heap.size w' C A n c L i r ∧ R = r.map (fun k => (d, k))
def atR (r : Except (Int × Nat) Nat) : Nat := match r with | .ok j => j | .error _ => 0
theorem cD.at_ {lo : Nat} {w : World} {C : Nat} {A : Option Addr} {n c : Nat} {L : List Int} {i : Int} {r : Except (Int × Nat) Nat} (h : cD lo w C A n c L i r) : ∀ j, r = .ok j → i = (atR r : Int) := by
 intro j hj;subst hj;obtain ⟨p, h1, _⟩ := h.good;exact h1
theorem cD.next {lo : Nat} {w : World} {C : Nat} {A : Option Addr} {n c : Nat} {L : List Int} {i : Int} {r : Except (Int × Nat) Nat} (h : cD lo w C A n c L i r) (hj : ∀ j, r = .ok j → j < n) :
    w.cell? ⟨C, 1, none⟩ = some (.int .i64 i) ∧ w.frozen? ⟨C, 1, none⟩ = false ∧ cD lo (w.setCell ⟨C, 1, none⟩ (.int .i64 (i + 1))) C A n c L (i + 1) (r.map (· + 1)) ∧ aF w C (w.setCell ⟨C, 1, none⟩ (.int .i64 (i + 1))) := by
 refine ⟨h.c1, h.fz 1, ?_, aF.set _ _ _ _⟩;cases r with
 | ok j => obtain ⟨p, rfl, h2, h3⟩ := h.good; exact (h.step (hj j rfl)).2.2.1
 | error e => obtain ⟨x, q⟩ := e; obtain ⟨h1, h2⟩ := h.yT; exact .gV (h2.put _) h1
def lE (L : List Int) (st : Bool) (b s : List aE) (c : Int) (j : Nat) : fH bp := match dx L j with | .error e => .error e | .ok ((a, fin), k) => .ok (⟨st, fin, b, s, a, c⟩, aj L k)
def f8 (L : List Int) (st : Bool) (a : Nat) : fH bp := match cM L st a with | .error e => .error e | .ok ((b, s, c), j) => lE L st b s c j
theorem Dg (L : List Int) (i : Nat) : cj L i = if pk L (aj L i) = 94 then f8 L true (aj L i + 1) else f8 L false (aj L i) := by
 unfold cj f8 lE;by_cases h : pk L (aj L i) = 94
 ·rw [if_pos h, if_pos h, decide_eq_true h];rfl
 rw [if_neg h, if_neg h, decide_eq_false h];rfl
theorem map_bind {α β γ : Type} (r : Except γ α) (f : α → α) (g : α → Except γ β) : (r.map f).bind g = r.bind (fun a => g (f a)) := by cases r <;> rfl
theorem Ef {L : List Int} {st : Bool} {a j : Nat} {l l2 : List aE} {cu c2 : Int} {R : fH bp} {r5 r7 : Except (Int × Nat) Nat} (hR : R = f8 L st a) (hi : bA L a = .ok ((l, cu), j)) (h1 : pk L j = 123)
    (h5 : r5 = if 0 ≤ cu then .error (8, a) else .ok j) (h7 : (r5.map (· + 1)).bind (bA L) = r7.map (fun k => ((l2, c2), k))) : R = r7.bind (lE L st l l2 c2) := by
 rw [hR];unfold f8;by_cases hc : 0 ≤ cu
 ·rw [if_pos hc] at h5;subst h5;rw [uQ hi h1 hc];cases r7 with
  | ok k => cases h7
  | error e => injection h7 with h7; subst h7; rfl
 rw [if_neg hc] at h5;subst h5;have h8 : bA L (j + 1) = r7.map (fun k => ((l2, c2), k)) := h7;cases r7 with
 | ok k => rw [yH hi h1 hc h8]; rfl
 | error e => rw [sy hi h1 hc h8]; rfl
theorem ED {L : List Int} {st : Bool} {l : List aE} {cu : Int} {R : fH bp} {r r3 : Except (Int × Nat) Nat} (hR : R = r.bind (f8 L st)) (hi : r.bind (bA L) = r3.map (fun k => ((l, cu), k))) (h1 : ep L r3 0 ≠ 123) (q : Nat) (hq : ∀ j, r3 = .ok j → q = j) :
    R = (if st = true then uz r3 2 q else r3).bind (lE L st [] l cu) := by
 rw [hR];cases r with
 | error e => cases r3 with
   | error e3 => injection hi with hi; subst hi; cases st <;> rfl
   | ok j => cases hi
 | ok a =>
  have hi2 : bA L a = r3.map (fun k => ((l, cu), k)) := hi;show f8 L st a = _;unfold f8;cases r3 with
  | error e3 => have h2 : cM L st a = .error e3 := by unfold cM; rw [hi2]; rfl
                rw [h2]; cases st <;> rfl
  | ok j =>
   have h3 : pk L j ≠ 123 := h1;rw [hq j rfl];cases st with
   | true => rw [ug hi2 h3]; rfl
   | false => rw [xU hi2 h3]; rfl
theorem CJ {L : List Int} {st : Bool} {b s l3 : List aE} {cc c3 : Int} {j : Nat} {R : fH bp} {r4 r5 : Except (Int × Nat) Nat} (hR : R = lE L st b s cc j) (h1 : pk L j = 125) (hi : bA L (j + 1) = r4.map (fun k => ((l3, c3), k)))
    (h5 : r5 = if 0 ≤ c3 then uz r4 8 (j + 1) else r4) : (ep L r5 0 = 36 → ∀ k, r5 = .ok k → R = .ok (⟨st, true, b, s, l3, cc⟩, aj L (k + 1))) ∧ (ep L r5 0 ≠ 36 → R = r5.bind (fun k => .ok (⟨st, false, b, s, l3, cc⟩, aj L k))) := by
 rw [hR];unfold lE;cases r4 with
 | error e =>
  rw [sD h1 hi];have : r5 = .error e := (by rw [h5]; split <;> rfl);subst this;exact ⟨fun _ k h => by (cases h), fun _ => rfl⟩
 | ok k =>
  rw [uX h1 hi];by_cases hc : 0 ≤ c3
  ·rw [if_pos hc] at h5;rw [if_pos hc];subst h5;exact ⟨fun _ k h => by (cases h), fun _ => rfl⟩
  rw [if_neg hc] at h5;rw [if_neg hc];subst h5;refine ⟨fun fc k' hk => ?_, fun fc => ?_⟩
  ·injection hk with hk;subst hk;rw [if_pos (show pk L k = 36 from fc)]
  rw [if_neg (show ¬ pk L k = 36 from fc)];rfl
theorem Ci {L : List Int} {st : Bool} {b s : List aE} {cc : Int} {R : fH bp} {r : Except (Int × Nat) Nat} (hR : R = r.bind (lE L st b s cc)) (h1 : ep L r 0 ≠ 125) : R = r.bind (fun k => .ok (⟨st, false, b, s, [], cc⟩, aj L k)) := by
 rw [hR];cases r with
 | error e => rfl
 | ok j => show lE L st b s cc j = _; unfold lE; rw [At (show pk L j ≠ 125 from h1)]; rfl
theorem Bb {L : List Int} {d : bp} {R : fH bp} {r : Except (Int × Nat) Nat} (h : R = r.bind (fun k => .ok (d, aj L k))) : R = (r.map (aj L)).map (fun k => (d, k)) := by
 rw [h]; cases r <;> rfl
end Go.Proofs.YthnhbcohfoodlaaGreatDoor
