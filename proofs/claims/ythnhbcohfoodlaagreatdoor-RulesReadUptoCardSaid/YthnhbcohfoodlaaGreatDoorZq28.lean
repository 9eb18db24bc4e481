/- CurChar + RefCharM -/
import Derived.Test.YthnhbcohfoodlaaGreatDoorZq27
import Derived.Test.YthnhbcohfoodlaaGreatDoorZq23
import Derived.Test.YthnhbcohfoodlaaGreatDoorZq8
set_option maxHeartbeats 6400000
set_option maxRecDepth 100000
namespace Go.Proofs.YthnhbcohfoodlaaGreatDoor
open Go.RowKit
theorem pQ {L : List Int} {i : Nat} (h : bL (pk L i) = true) : bU L i = .ok (pk L i, i + 1) := by unfold bU; rw [if_pos h]
theorem yK {L : List Int} {i : Nat} (h : bL (pk L i) = false) (h2 : pk L i ≠ 92) : bU L i = .error (2, i) := by unfold bU; rw [if_neg (by rw [h]; decide), if_pos h2]
theorem uW {L : List Int} {i : Nat} (h2 : pk L i = 92) : bU L i = if pk L (i + 1) = 110 then .ok (10, i + 2)
  else if pk L (i + 1) = 116 then .ok (9, i + 2)
  else if pk L (i + 1) = 117 then gp L (i + 1)
  else if pk L (i + 1) < 0 ∨ rJ (pk L (i + 1)) = true then .error (2, i + 1)
  else .ok (pk L (i + 1), i + 2) := by
 unfold bU;rw [if_neg (by rw [h2]; decide), if_neg (by rw [h2]; decide)]
theorem xo (r : Int) : rJ r = true ↔ (48 ≤ r ∧ r ≤ 57) ∨ (97 ≤ r ∧ r ≤ 122) ∨ (65 ≤ r ∧ r ≤ 90) := by
 unfold rJ;simp only [Bool.or_eq_true, Bool.and_eq_true, decide_eq_true_eq]
theorem au.step {w : World} {C : Nat} {A : Option Addr} {n c : Nat} {L : List Int} {i : Nat} (h : au w C A n c L i) (hi : i < n) :
    w.cell? ⟨C, 1, none⟩ = some (.int .i64 i) ∧ w.frozen? ⟨C, 1, none⟩ = false ∧ au (w.setCell ⟨C, 1, none⟩ (.int .i64 ((i : Int) + 1))) C A n c L (i + 1) ∧ aF w C (w.setCell ⟨C, 1, none⟩ (.int .i64 ((i : Int) + 1))) := by
 have hm := h.move (j := i + 1) hi;rw [show (((i + 1 : Nat)) : Int) = (i : Int) + 1 by omega] at hm;exact ⟨h.cX.cell 1, h.cX.frozen 1, hm, aF.set w C 1 _⟩
theorem xJ (w : World) (C : Nat) (A : Option Addr) (n c : Nat) (L : List Int) (i : Nat) (h : au w C A n c L i) (hL : cA L) :
    Calls Tryz.prog 130 #[.pointer (some ⟨C, 0, none⟩)] w (yu w C A n c L (bU L i)) := by
 have hs := h.size;have hlen := h.len;have HL := Lib.hid hL;have HC := Lib.hid h;have fR := Lib.hid (fun (W : World) (k : Nat) (h : au W C A n c L k) => ko W C A n c L k h);have vE := Lib.hid (fun (W : World) (k : Nat) => lX (pk L k) W (hL.pk k));have hw1 : IntKind.i64.wrap ((i : Int) + 1) = (i : Int) + 1 := wrap_small _ (by have := h.le; omega) (by have := h.le; omega);have hle := h.le;clear h hL;obtain ⟨R, hR⟩ : ∃ R, bU L i = R := ⟨_, rfl⟩;rw [hR];have iM := Lib.hid hR;clear hR;cases hp : bL (pk L i) with
 | true =>
  have hlt : i < L.length := aS (fun e => by rw [e] at hp; exact absurd hp (by decide));have fX := Lib.hid (show R = .ok (pk L i, i + 1) from iM.out.symm.trans (pQ hp));have Ea := Lib.hid (fun (W : World) => show Calls Tryz.prog 128 #[.int .i32 (pk L i)] W fun e w' => e = .returned (.bool true) ∧ Below W.heap.size W w' by have := vE.out W i; rwa [hp] at this);clear hp;go_enter Tryz.func130, Tryz.ntmps130;go_wp2_with fail;refine (fR.out _ _ HC.out).mono ?_;rintro e w1 ⟨rfl, m, rfl⟩;go_wp2_with fail;refine (Ea.out _).mono ?_;rintro e w2 ⟨rfl, hb⟩;have fV := Lib.hid ((HC.out.drewN m).below hb);have cS := Lib.hid ((aF.drewN w C m).trans (aF.below C hb));clear hb;obtain ⟨d1, d2, d3, d4⟩ := fV.out.step (by omega);have eL := Lib.hid d3;have bV := Lib.hid (cS.out.trans d4);clear d3 d4;go_wp2_with fail;go_ret;rw [fX.out];exact ⟨rfl, eL.out, bV.out⟩
 | false =>
  have Ea := Lib.hid (fun (W : World) => show Calls Tryz.prog 128 #[.int .i32 (pk L i)] W fun e w' => e = .returned (.bool false) ∧ Below W.heap.size W w' by have := vE.out W i; rwa [hp] at this);by_cases kY : pk L i = 92
  ·have hlt : i < L.length := aS (by omega);have oK := Lib.hid (iM.out.symm.trans (uW kY));have o3 := Lib.hid (fun (W : World) (h : au W C A n c L i) => show Calls Tryz.prog 57 #[.pointer (some ⟨C, 0, none⟩)] W fun e w' => e = .returned (.int .i32 92) ∧ ∃ m, w' = W.drewN m by have := fR.out W i h; rwa [kY] at this);rw [kY] at Ea;clear hp kY;go_enter Tryz.func130, Tryz.ntmps130;go_wp2_with fail;refine (o3.out _ HC.out).mono ?_;rintro e w1 ⟨rfl, m, rfl⟩;go_wp2_with fail;refine (Ea.out _).mono ?_;rintro e w2 ⟨rfl, hb⟩;have fV := Lib.hid ((HC.out.drewN m).below hb);have cS := Lib.hid ((aF.drewN w C m).trans (aF.below C hb));clear hb;obtain ⟨d1, d2, d3, d4⟩ := fV.out.step (by omega);have eL := Lib.hid d3;have bV := Lib.hid (cS.out.trans d4);clear d3 d4;go_wp2_with fail;refine (fR.out _ _ eL.out).mono ?_;rintro e w3 ⟨rfl, m3, jy⟩;have kL := Lib.hid (eL.out.drewN m3);have cG := Lib.hid (bV.out.trans (aF.drewN _ C m3));rw [← jy] at kL cG;clear jy d1 d2;have yQ : IntKind.i64.wrap ((i : Int) + 1 + 1) = (i : Int) + 1 + 1 := wrap_small _ (by omega) (by omega);have OZ := jf HL.out.ok (i + 1);have CW := Lib.hid (fun (W : World) (hc : au W C A n c L (i + 1)) (hlt : i + 1 < n) => Ft W C A n c L (i + 1) hc HL.out hlt);have hcast : ((i + 1 : Nat) : Int) = (i : Int) + 1 := (by omega);generalize hr : pk L (i + 1) = r at *;by_cases h1 : r = 110
   ·subst h1;have nO : i + 1 < n := (by rw [← hlen]; exact aS (by omega));have fX := Lib.hid (show R = .ok (10, i + 2) from oK.out);obtain ⟨d1, d2, d3, d4⟩ := kL.out.step nO;rw [hcast] at d1 d3 d4;have kn := Lib.hid d3;have dM := Lib.hid (cG.out.trans d4);clear d3 d4 oK hr;go_wp2_with fail;go_ret;rw [fX.out];exact ⟨rfl, kn.out, dM.out⟩
   by_cases h2 : r = 116
   ·subst h2;have nO : i + 1 < n := (by rw [← hlen]; exact aS (by omega));have fX := Lib.hid (show R = .ok (9, i + 2) from oK.out);obtain ⟨d1, d2, d3, d4⟩ := kL.out.step nO;rw [hcast] at d1 d3 d4;have kn := Lib.hid d3;have dM := Lib.hid (cG.out.trans d4);clear d3 d4 oK hr;go_wp2_with fail;go_ret;rw [fX.out];exact ⟨rfl, kn.out, dM.out⟩
   by_cases h3 : r = 117
   ·subst h3;have nO : i + 1 < n := (by rw [← hlen]; exact aS (by omega));have fX := Lib.hid (show R = gp L (i + 1) from oK.out);have HX := Lib.hid (CW.out _ kL.out nO);clear oK hr CW;cases hx : gp L (i + 1) with
    | error e0 =>
     obtain ⟨x, p⟩ := e0;rw [hx] at HX;have kN := Lib.hid (fX.out.trans hx);clear hx;go_wp2_with fail;refine HX.out.mono ?_;rintro e w5 ⟨he, hb⟩;unfold aX at he;subst he;have dM := Lib.hid (cG.out.trans hb);clear hb;go_wp2_with fail;rw [kN.out];exact ⟨rfl, rfl, dM.out⟩
    | ok q =>
     obtain ⟨x, p⟩ := q;rw [hx] at HX;have kN := Lib.hid (fX.out.trans hx);clear hx;go_wp2_with fail;refine HX.out.mono ?_;rintro e w5 ⟨rfl, hc, hb⟩;have kn := Lib.hid hc;have dM := Lib.hid (cG.out.trans hb);clear hb hc;go_wp2_with fail;go_ret;rw [kN.out];exact ⟨rfl, kn.out, dM.out⟩
   have sE := Lib.hid (show R = if r < 0 ∨ rJ r = true then .error (2, i + 1) else .ok (r, i + 2) by rw [oK.out, if_neg h1, if_neg h2, if_neg h3]);have q1 : (r == 110) = false := (by simp; exact h1);have q2 : (r == 116) = false := (by simp; exact h2);have q3 : (r == 117) = false := (by simp; exact h3);clear oK h1 h2 h3 CW;by_cases gN : r < 0 ∨ rJ r = true
   ·have fX := Lib.hid (show R = .error (2, i + 1) by rw [sE.out, if_pos gN]);have d1 := kL.out.cX.cell 1;have hcell : w3.cell? ⟨C, 1, none⟩ = some (.int .i64 ((i : Int) + 1)) := (by rw [← hcast]; exact d1);have HF := Lib.hid (fun (W : World) => bW 2 ((i : Int) + 1) W);rw [xo] at gN;clear sE d1;rcases (show r < 0 ∨ (48 ≤ r ∧ r ≤ 57) ∨ (97 ≤ r ∧ r ≤ 122) ∨ (65 ≤ r ∧ r ≤ 90) by omega) with h1 | ⟨h1, h2⟩ | ⟨h1, h2⟩ | ⟨h1, h2⟩
    all_goals
      clear gN
      go_wp2_with fail
      refine (HF.out _).mono ?_
      rintro e w5 ⟨rfl, rfl⟩
      go_wp2_with fail
      rw [fX.out]
      exact ⟨rfl, by rw [aX, hcast], cG.out⟩
   have fX := Lib.hid (show R = .ok (r, i + 2) by rw [sE.out, if_neg gN]);rw [xo] at gN;have nO : i + 1 < n := (by rw [← hlen]; exact aS (by omega));obtain ⟨d1, d2, d3, d4⟩ := kL.out.step nO;rw [hcast] at d1 d3 d4;have kn := Lib.hid d3;have dM := Lib.hid (cG.out.trans d4);clear d3 d4 sE hr;rcases (show (0 ≤ r ∧ r < 48) ∨ (57 < r ∧ r < 65) ∨ (90 < r ∧ r < 97) ∨ 122 < r by omega) with ⟨h1, h2⟩ | ⟨h1, h2⟩ | ⟨h1, h2⟩ | h1
   all_goals
     clear gN
     go_wp2_with fail
     go_ret
     rw [fX.out]
     exact ⟨rfl, kn.out, dM.out⟩
  have fX := Lib.hid (show R = .error (2, i) from iM.out.symm.trans (yK hp kY));have T1 : (pk L i != 92) = true := (by simp [kY]);clear hp;go_enter Tryz.func130, Tryz.ntmps130;go_wp2_with fail;refine (fR.out _ _ HC.out).mono ?_;rintro e w1 ⟨rfl, m, rfl⟩;go_wp2_with fail;refine (Ea.out _).mono ?_;rintro e w2 ⟨rfl, hb⟩;have fV := Lib.hid ((HC.out.drewN m).below hb);have cS := Lib.hid ((aF.drewN w C m).trans (aF.below C hb));clear hb;have d1 := fV.out.cX.cell 1;go_wp2_with fail;refine (bW 2 i _).mono ?_;rintro e w3 ⟨rfl, rfl⟩;go_wp2_with fail;rw [fX.out];exact ⟨rfl, rfl, cS.out⟩
def I7 (w : World) (C : Nat) (A : Option Addr) (n c : Nat) (L : List Int) (p : Int) (r : fH Int) (e : Ending) (w' : World) : Prop :=
  (match r with
  | .ok (x, j) => e = .returned (.int .i32 x) ∧ j ≤ n ∧ aO w' C A n c L j 0 p
  | .error (x, q) => x ≠ 0 ∧ ∃ v i, e = .returned (.int .i32 v) ∧ aO w' C A n c L i x q) ∧ aF w C w'
theorem Dm {L : List Int} {a j : Nat} (ha : a ≤ j) (hj : j < L.length) : ay L a (j + 1) = ay L a j ++ [pk L j] := by
 unfold ay;rw [show j + 1 - a = (j - a) + 1 by omega, List.take_add_one, List.getElem?_drop, show a + (j - a) = j by omega, List.getElem?_eq_getElem hj, uh (List.getElem?_eq_getElem hj)];rfl
structure jF (L : List Int) (a n j : Nat) (x : Int) : Prop where
  lo : a ≤ j
  hi : j ≤ n
  run : aq ct L a = aq ct L j
  all : ∀ d ∈ ay L a (min j (a + 6)), ct d = true
  val : x = dg (ay L a (min j (a + 6)))
theorem jF.start {L : List Int} {a n : Nat} (h : a ≤ n) : jF L a n a 0 := by
 have e : ay L a (min a (a + 6)) = [] := (by unfold ay; rw [show min a (a + 6) - a = 0 by omega]; rfl);exact ⟨Nat.le_refl _, h, rfl, by rw [e]; simp, by rw [e]; rfl⟩
theorem jF.small {L : List Int} {a n j : Nat} {x : Int} (h : jF L a n j x) : 0 ≤ x ∧ x < 16777216 := by
 rw [h.val];exact iS h.all (by unfold ay; rw [List.length_take]; omega)
theorem jF.near {L : List Int} {a n j : Nat} {x : Int} (h : jF L a n j x) (hl : j < L.length) (hn : L.length = n) (hh : ct (pk L j) = true) (h6 : j < a + 6) : jF L a n (j + 1) (16 * x + iE (pk L j)) := by
 have e := Dm h.lo hl;have h0 := h.all;have h1 := h.val;rw [show min j (a + 6) = j by omega] at h0 h1;refine ⟨by have := h.lo; omega, by omega, h.run.trans (bD hl hh), ?_, ?_⟩
 ·rw [show min (j + 1) (a + 6) = j + 1 by omega, e];intro d hd;rcases List.mem_append.1 hd with hd | hd;exact h0 d hd;rw [List.mem_singleton.1 hd]; exact hh
 rw [show min (j + 1) (a + 6) = j + 1 by omega, e, qf, h1]
theorem jF.Uy {L : List Int} {a n j : Nat} {x : Int} (h : jF L a n j x) (hl : j < L.length) (hn : L.length = n) (hh : ct (pk L j) = true) (h6 : ¬ j < a + 6) : jF L a n (j + 1) x := by
 have h0 := h.all;have h1 := h.val;rw [show min j (a + 6) = min (j + 1) (a + 6) by omega] at h0 h1;exact ⟨by have := h.lo; omega, by omega, h.run.trans (bD hl hh), h0, h1⟩
theorem jF.done {L : List Int} {a n j : Nat} {x : Int} (h : jF L a n j x) (hh : ct (pk L j) = false) : aq ct L a = j := h.run.trans (bw (fun _ => hh))
theorem BF {L : List Int} {i a j : Nat} (hn : aH L (i + 1) 123 = .ok a) (hr : aq ct L a = j) (h : j - a < 1 ∨ 6 < j - a) : gp L i = .error (2, a) := by
 unfold gp;rw [hn];simp only [hr];rw [if_pos h]
theorem BJ {L : List Int} {i a j : Nat} {e : Int × Nat} (hn : aH L (i + 1) 123 = .ok a) (hr : aq ct L a = j) (h : ¬ (j - a < 1 ∨ 6 < j - a)) (h2 : aH L j 125 = .error e) : gp L i = .error e := by
 unfold gp;rw [hn];simp only [hr];rw [if_neg h, h2]
theorem DU {L : List Int} {i a j k : Nat} {x : Int} (hn : aH L (i + 1) 123 = .ok a) (hr : aq ct L a = j) (h : ¬ (j - a < 1 ∨ 6 < j - a)) (h2 : aH L j 125 = .ok k) (hx : x = dg (ay L a (min j (a + 6)))) : gp L i = if 1114111 < x then .error (3, i) else .ok (x, k) := by
 unfold gp;rw [hn];simp only [hr];rw [if_neg h, h2, hx, show min j (a + 6) = j by omega]
theorem vw (w : World) (C : Nat) (A : Option Addr) (n c : Nat) (L : List Int) (i : Nat) (p : Int) (h : aO w C A n c L i 0 p) (hi : i ≤ n) (hL : bY L) :
    Calls Tryz.prog 85 #[.pointer (some ⟨C, 0, none⟩)] w (I7 w C A n c L p (bU L i)) := by
 have hs := h.size;have hlen := h.len;have HL := Lib.hid hL;have HC := Lib.hid h;have fA := Lib.hid (fun (W : World) (k : Nat) (h : aO W C A n c L k 0 p) (hk : k ≤ n) => gJ W C A n c L k p h hk);have hw1 : IntKind.i64.wrap ((i : Int) + 1) = (i : Int) + 1 := wrap_small _ (by omega) (by omega);have HR := Lib.hid (show pk L i = -1 ∨ (0 ≤ pk L i ∧ pk L i ≤ 1114111) from jf hL i);have kN := Lib.hid (show pk L (i + 1) = -1 ∨ (0 ≤ pk L (i + 1) ∧ pk L (i + 1) ≤ 1114111) from jf hL (i + 1));have pW := Lib.hid (fun (W : World) => gl (pk L i) W);clear h hL;obtain ⟨R, hR⟩ : ∃ R, bU L i = R := ⟨_, rfl⟩;rw [hR];have iM := Lib.hid hR;clear hR;cases hp : bL (pk L i) with
 | true =>
  have hlt : i < L.length := aS (fun e => by rw [e] at hp; exact absurd hp (by decide));have fX := Lib.hid (show R = .ok (pk L i, i + 1) from iM.out.symm.trans (pQ hp));have h0 : 0 ≤ pk L i := by
   rcases HR.out with h | h
   ·rw [h] at hp; exact absurd hp (by decide)
   exact h.1
  have En := Lib.hid (fun (W : World) => show Calls Tryz.prog 83 #[.int .i32 (pk L i)] W fun e w' => e = .returned (.bool false) ∧ Below W.heap.size W w' by have := pW.out W; rwa [jT h0, hp] at this);clear hp;go_enter Tryz.func85, Tryz.ntmps85;go_wp2_with fail;refine (fA.out _ _ HC.out hi).mono ?_;rintro e w1 ⟨rfl, m, rfl⟩;go_wp2_with fail;refine (En.out _).mono ?_;rintro e w2 ⟨rfl, hb⟩;have fV := Lib.hid ((HC.out.drewN m).keep hb);have cS := Lib.hid ((aF.drewN w C m).trans (aF.below C hb));clear hb;obtain ⟨d1, d2, d3, d4⟩ := fV.out.step;have eL := Lib.hid d3;have bV := Lib.hid (cS.out.trans d4);clear d3 d4;go_wp2_with fail;go_ret;rw [fX.out];exact ⟨⟨rfl, by omega, eL.out⟩, bV.out⟩
 | false =>
  by_cases kY : pk L i = 92
  ·have hlt : i < L.length := aS (by omega);have oK := Lib.hid (iM.out.symm.trans (uW kY));have tK := Lib.hid (fun (W : World) (h : aO W C A n c L i 0 p) => show Calls Tryz.prog 61 #[.pointer (some ⟨C, 0, none⟩), .int .i64 0] W fun e w' => e = .returned (.int .i32 92) ∧ ∃ m, w' = W.drewN m by have := fA.out W i h hi; rwa [kY] at this);have En := Lib.hid (fun (W : World) => show Calls Tryz.prog 83 #[.int .i32 92] W fun e w' => e = .returned (.bool true) ∧ Below W.heap.size W w' from gl 92 W);clear hp kY;go_enter Tryz.func85, Tryz.ntmps85;go_wp2_with fail;refine (tK.out _ HC.out).mono ?_;rintro e w1 ⟨rfl, m, rfl⟩;go_wp2_with fail;refine (En.out _).mono ?_;rintro e w2 ⟨rfl, hb⟩;have fV := Lib.hid ((HC.out.drewN m).keep hb);have cS := Lib.hid ((aF.drewN w C m).trans (aF.below C hb));clear hb;obtain ⟨d1, d2, d3, d4⟩ := fV.out.step;have eL := Lib.hid (show aO (w2.setCell ⟨C, 1, none⟩ (.int .i64 ((i : Int) + 1))) C A n c L ((i + 1 : Nat) : Int) 0 p by rw [show ((i + 1 : Nat) : Int) = (i : Int) + 1 by omega]; exact d3);have bV := Lib.hid (cS.out.trans d4);clear d3 d4;go_wp2_with fail;refine (fA.out _ _ eL.out (by omega)).mono ?_;rintro e w3 ⟨rfl, m3, jy⟩;have kL := Lib.hid (eL.out.drewN m3);have cG := Lib.hid (bV.out.trans (aF.drewN _ C m3));rw [← jy] at kL cG;clear jy d1 d2;have yQ : IntKind.i64.wrap ((i : Int) + 1 + 1) = (i : Int) + 1 + 1 := wrap_small _ (by omega) (by omega);have hcast : ((i + 1 : Nat) : Int) = (i : Int) + 1 := (by omega);have c1 : w3.cell? ⟨C, 1, none⟩ = some (.int .i64 ((i : Int) + 1)) := (by rw [← hcast]; exact kL.out.c1);have f1 := kL.out.fz 1;have kn := Lib.hid (show aO (w3.setCell ⟨C, 1, none⟩ (.int .i64 ((i : Int) + 1 + 1))) C A n c L ((i + 2 : Nat) : Int) 0 p by rw [show ((i + 2 : Nat) : Int) = (i : Int) + 1 + 1 by omega]; exact kL.out.yJ _)
   have dM := Lib.hid (cG.out.trans (aF.set w3 C 1 (.int .i64 ((i : Int) + 1 + 1))));generalize hr : pk L (i + 1) = r at *;by_cases h1 : r = 117
   ·subst h1;have nO : i + 1 < n := (by rw [← hlen]; exact aS (by omega));have fX := Lib.hid (show R = gp L (i + 1) from oK.out);have HM := Lib.hid (jI _ C A n c L (i + 2) p 123 kn.out (by omega) (by decide));clear oK hr kN;cases hn : aH L (i + 2) 123 with
    | error e0 =>
     obtain ⟨x, q⟩ := e0;have kN := Lib.hid (fX.out.trans (AS hn));rw [hn] at HM;clear hn;go_wp2_with fail;refine HM.out.mono ?_;rintro e w6 ⟨rfl, ⟨hx0, i6, g9⟩, ck⟩;have qh := Lib.hid g9;have fu := Lib.hid (dM.out.trans ck);have HX := Lib.hid hx0;clear g9 ck hx0;have g1 := qh.out.c1;have NU : IntKind.i64.wrap (i6 - i6) = 0 := (by rw [Int.sub_self]; rfl);have nX := Lib.hid (eY w6 C A n c L i6 x q 0 qh.out HX.out);have Tc := Lib.hid (fun (W : World) => show Calls Tryz.prog 138 #[.int .i32 (-1)] W fun e w' => e = .returned (.int .i64 (-1)) ∧ w' = W from uB (-1) W (by decide) (by decide));go_wp2_with fail;go_loopw [6] (fun s wr => s = .int .i64 0 ∧ wr = w6) (fun _ _ => 0);(case atStart => exact ⟨rfl, rfl⟩);obtain ⟨rfl, rfl⟩ := hrel;go_wp2_with fail;refine nX.out.mono ?_;rintro e w7 ⟨rfl, fK, cZ⟩;have qs := Lib.hid fK;have er := Lib.hid (fu.out.trans cZ);have g7 := fK.c1;clear fK cZ;go_wp2_with fail;refine (Tc.out _).mono ?_;rintro e w8 ⟨rfl, gr⟩;subst gr;go_wp2_with fail;refine (eK _ C A n c L i6 x q 2 i6 qs.out HX.out).mono ?_;rintro e w8 ⟨rfl, gr⟩;subst gr;go_wp2_with fail;refine (eJ _ C A n c L i6 x q 125 qs.out HX.out (by decide)).mono ?_;rintro e w8 ⟨rfl, jh, bB⟩;have Fw := Lib.hid jh;have jG := Lib.hid (er.out.trans bB);clear jh bB;go_wp2_with fail;go_ret;rw [kN.out];exact ⟨⟨HX.out, _, _, rfl, Fw.out⟩, jG.out⟩
    | ok a =>
     have HN := Lib.hid hn;rw [hn] at HM;clear hn;go_wp2_with fail;refine HM.out.mono ?_;rintro e w6 ⟨rfl, ⟨ha, g9⟩, ck⟩;have qh := Lib.hid g9;have fu := Lib.hid (dM.out.trans ck);clear g9 ck;have g1 := qh.out.c1;go_wp2_with fail;go_loopw [6] (fun s wr => ∃ (j : Nat) (x : Int), s = .int .i64 x ∧ jF L a n j x ∧ aO wr C A n c L j 0 p ∧ aF w C wr) (fun _ wr => n - (match wr.cell? ⟨C, 1, none⟩ with | some (.int _ j) => j.toNat | _ => 0));(case atStart => exact ⟨a, 0, rfl, jF.start ha, qh.out, fu.out⟩);obtain ⟨j, x, rfl, hx, lT, uM⟩ := hrel;obtain ⟨hx0, hx1⟩ := hx.small;have Ob := hx.lo;have hjn := hx.hi;have HX := Lib.hid hx;have N2 := Lib.hid lT;have Rz := Lib.hid uM;have gT := Lib.hid lT.c1;have Th := jf HL.out j;have KR := Lib.hid (fun (W : World) => uB (pk L j) W (by omega) (by omega));have Ki : IntKind.i64.wrap ((j : Int) - (a : Int)) = (j : Int) - (a : Int) := wrap_small _ (by omega) (by omega);have Ue : IntKind.i64.wrap ((j : Int) + 1) = (j : Int) + 1 := wrap_small _ (by omega) (by omega);clear hx lT uM Th;cases hh : ct (pk L j) with
     | true =>
      have Lc : j < L.length := aS (fun e => by rw [e] at hh; exact absurd hh (by decide));obtain ⟨v1, v2, v3⟩ := oF hh;have Nz := Lib.hid (fun h6 => HX.out.near Lc hlen hh h6);have OR := Lib.hid (fun h6 => HX.out.Uy Lc hlen hh h6);rw [v1] at KR;generalize iE (pk L j) = v at *;clear hh v1;go_wp2_with fail;refine (fA.out _ _ N2.out hjn).mono ?_;rintro e w7 ⟨rfl, m7, yx⟩;have qs := Lib.hid (N2.out.drewN m7);have er := Lib.hid (Rz.out.trans (aF.drewN _ C m7));rw [← yx] at qs er;clear yx;go_wp2_with fail;refine (KR.out _).mono ?_;rintro e w8 ⟨rfl, gr⟩;subst gr;have k1 := qs.out.c1;have k2 := qs.out.fz 1;by_cases h6 : j < a + 6
      ·have hq : decide ((j : Int) - (a : Int) < 6) = true := decide_eq_true (by omega);have Cj := Lib.hid (Nz.out h6);go_wp2_with fail;refine (fA.out _ _ qs.out hjn).mono ?_;rintro e w9 ⟨rfl, m9, NR⟩;have vH := Lib.hid (qs.out.drewN m9);have cE := Lib.hid (er.out.trans (aF.drewN _ C m9));rw [← NR] at vH cE;clear NR;go_wp2_with fail;refine (KR.out _).mono ?_;rintro e sH ⟨rfl, ER⟩;subst ER;have l1 := vH.out.c1;have l2 := vH.out.fz 1;have z7 := Lib.hid (show aO (sH.setCell ⟨C, 1, none⟩ (.int .i64 ((j : Int) + 1))) C A n c L ((j + 1 : Nat) : Int) 0 p by rw [show ((j + 1 : Nat) : Int) = (j : Int) + 1 by omega]; exact vH.out.yJ _);have EH := Lib.hid (cE.out.trans (aF.set sH C 1 (.int .i64 ((j : Int) + 1))));go_wp2_with fail;refine ⟨⟨j + 1, _, rfl, Cj.out, z7.out, EH.out⟩, ?_⟩;rw [z7.out.c1, gT.out];simp only [Int.toNat_natCast];omega
      have hq : decide ((j : Int) - (a : Int) < 6) = false := decide_eq_false (by omega);have Cj := Lib.hid (OR.out h6);have z7 := Lib.hid (show aO (w8.setCell ⟨C, 1, none⟩ (.int .i64 ((j : Int) + 1))) C A n c L ((j + 1 : Nat) : Int) 0 p by rw [show ((j + 1 : Nat) : Int) = (j : Int) + 1 by omega]; exact qs.out.yJ _);have EH := Lib.hid (er.out.trans (aF.set w8 C 1 (.int .i64 ((j : Int) + 1))));go_wp2_with fail;refine ⟨⟨j + 1, _, rfl, Cj.out, z7.out, EH.out⟩, ?_⟩;rw [z7.out.c1, gT.out];simp only [Int.toNat_natCast];omega
     | false =>
      have hrun := HX.out.done hh;rw [Ar hh] at KR;have sR := Lib.hid hrun;clear hh hrun;have nV := Lib.hid (fun (W : World) (h : aO W C A n c L j 0 p) => jI W C A n c L j p 125 h hjn (by decide));go_wp2_with fail;refine (fA.out _ _ N2.out hjn).mono ?_;rintro e w7 ⟨rfl, m7, yx⟩;have qs := Lib.hid (N2.out.drewN m7);have er := Lib.hid (Rz.out.trans (aF.drewN _ C m7));rw [← yx] at qs er;clear yx;go_wp2_with fail;refine (KR.out _).mono ?_;rintro e w8 ⟨rfl, gr⟩;subst gr;have k1 := qs.out.c1;by_cases gN : j - a < 1 ∨ 6 < j - a
      ·have oK := Lib.hid (fX.out.trans (BF HN.out sR.out gN));have eF := Lib.hid (dY w8 C A n c L j p 2 a qs.out);rcases (show j = a ∨ a + 6 < j by omega) with h0 | h0
       all_goals
         clear gN
         go_wp2_with fail
         refine eF.out.mono ?_
         rintro e w9 ⟨rfl, nS, bI⟩
         have vH := Lib.hid nS
         have cE := Lib.hid (er.out.trans bI)
         clear nS bI
         go_wp2_with fail
         refine (eJ _ C A n c L j 2 a 125 vH.out (by decide) (by decide)).mono ?_
         rintro e sH ⟨rfl, eM, dF⟩
         have vH := Lib.hid eM
         have cE := Lib.hid (cE.out.trans dF)
         clear eM dF
         by_cases vD : 1114111 < x
         · go_wp2_with fail
           refine (eK _ C A n c L j 2 a 3 _ vH.out (by decide)).mono ?_
           rintro e sH ⟨rfl, ER⟩
           subst ER
           go_wp2_with fail
           go_ret
           rw [oK.out]
           exact ⟨⟨by decide, _, _, rfl, vH.out⟩, cE.out⟩
         · go_wp2_with fail
           go_ret
           rw [oK.out]
           exact ⟨⟨by decide, _, _, rfl, vH.out⟩, cE.out⟩
      have zL : a + 1 ≤ j := (by omega);have hj2 : j ≤ a + 6 := (by omega);cases hn2 : aH L j 125 with
      | error e0 =>
       obtain ⟨y, q⟩ := e0;have oK := Lib.hid (fX.out.trans (BJ HN.out sR.out gN hn2));have I6 := Lib.hid (nV.out w8 qs.out);rw [hn2] at I6;clear hn2 gN;go_wp2_with fail;refine I6.out.mono ?_;rintro e w9 ⟨rfl, ⟨hy, i9, nS⟩, bI⟩;have vH := Lib.hid nS;have cE := Lib.hid (er.out.trans bI);have HY := Lib.hid hy;clear nS bI hy;by_cases vD : 1114111 < x
       ·go_wp2_with fail;refine (eK _ C A n c L i9 y q 3 _ vH.out HY.out).mono ?_;rintro e sH ⟨rfl, ER⟩;subst ER;go_wp2_with fail;go_ret;rw [oK.out];exact ⟨⟨HY.out, _, _, rfl, vH.out⟩, cE.out⟩
       go_wp2_with fail;go_ret;rw [oK.out];exact ⟨⟨HY.out, _, _, rfl, vH.out⟩, cE.out⟩
      | ok k =>
       have oK := Lib.hid (fX.out.trans (DU HN.out sR.out gN hn2 HX.out.val));have I6 := Lib.hid (nV.out w8 qs.out);rw [hn2] at I6;clear hn2 gN;go_wp2_with fail;refine I6.out.mono ?_;rintro e w9 ⟨rfl, ⟨hk, nS⟩, bI⟩;have vH := Lib.hid nS;have cE := Lib.hid (er.out.trans bI);clear nS bI;by_cases vD : 1114111 < x
       ·rw [if_pos vD] at oK;have eF := Lib.hid (fun (q : Int) => dY w9 C A n c L k p 3 q vH.out);go_wp2_with fail;refine (eF.out _).mono ?_;rintro e sH ⟨rfl, eM, dF⟩;have z7 := Lib.hid eM;have EH := Lib.hid (cE.out.trans dF);clear eM dF;go_wp2_with fail;go_ret;rw [oK.out];exact ⟨⟨by decide, _, _, rfl, by rw [hcast]; exact z7.out⟩, EH.out⟩
       rw [if_neg vD] at oK;go_wp2_with fail;go_ret;rw [oK.out];exact ⟨⟨rfl, hk, vH.out⟩, cE.out⟩
   have GR := Lib.hid (fun (W : World) => CD r W);have q0 : (r == 117) = false := (by rw [beq_eq_false_iff_ne]; exact h1);by_cases h2 : r = 110
   ·subst h2;have nO : i + 1 < n := (by rw [← hlen]; exact aS (by omega));have fX := Lib.hid (show R = .ok (10, i + 2) from oK.out);clear oK hr;go_wp2_with fail;go_ret;rw [fX.out];exact ⟨⟨rfl, by omega, kn.out⟩, dM.out⟩
   by_cases h3 : r = 116
   ·subst h3;have nO : i + 1 < n := (by rw [← hlen]; exact aS (by omega));have fX := Lib.hid (show R = .ok (9, i + 2) from oK.out);clear oK hr;go_wp2_with fail;go_ret;rw [fX.out];exact ⟨⟨rfl, by omega, kn.out⟩, dM.out⟩
   have sE := Lib.hid (show R = if r < 0 ∨ rJ r = true then .error (2, i + 1) else .ok (r, i + 2) by rw [oK.out, if_neg h2, if_neg h3, if_neg h1]);have q1 : (r == 110) = false := (by rw [beq_eq_false_iff_ne]; exact h2);have q2 : (r == 116) = false := (by rw [beq_eq_false_iff_ne]; exact h3);have eF := Lib.hid (dY w3 C A n c L ((i + 1 : Nat) : Int) p 2 ((i : Int) + 1) kL.out);clear oK h1 h2 h3;by_cases h0 : r < 0
   ·have fX := Lib.hid (show R = .error (2, i + 1) by rw [sE.out, if_pos (.inl h0)]);clear sE;go_wp2_with fail;refine eF.out.mono ?_;rintro e w5 ⟨rfl, eV, cr⟩;have qh := Lib.hid eV;have fu := Lib.hid (cG.out.trans cr);clear eV cr;go_wp2_with fail;go_ret;rw [fX.out];exact ⟨⟨by decide, _, _, rfl, by rw [hcast]; rw [hcast] at qh; exact qh.out⟩, fu.out⟩
   cases wV : rJ r with
   | true =>
    have fX := Lib.hid (show R = .error (2, i + 1) by rw [sE.out, if_pos (.inr wV)]);rw [wV] at GR;clear sE wV;go_wp2_with fail;refine (GR.out _).mono ?_;rintro e w4 ⟨rfl, oP⟩;subst oP;go_wp2_with fail;refine eF.out.mono ?_;rintro e w5 ⟨rfl, eV, cr⟩;have qh := Lib.hid eV;have fu := Lib.hid (cG.out.trans cr);clear eV cr;go_wp2_with fail;go_ret;rw [fX.out];exact ⟨⟨by decide, _, _, rfl, by rw [hcast]; rw [hcast] at qh; exact qh.out⟩, fu.out⟩
   | false =>
    have fX := Lib.hid (show R = .ok (r, i + 2) by rw [sE.out, if_neg (by rw [wV]; simp; omega)]);rw [wV] at GR;have nO : i + 1 < n := (by rw [← hlen]; exact aS (by omega));clear sE wV hr;go_wp2_with fail;refine (GR.out _).mono ?_;rintro e w4 ⟨rfl, oP⟩;subst oP;go_wp2_with fail;go_ret;rw [fX.out];exact ⟨⟨rfl, by omega, kn.out⟩, dM.out⟩
  have fX := Lib.hid (show R = .error (2, i) from iM.out.symm.trans (yK hp kY));have q1 : (pk L i == 92) = false := (by rw [beq_eq_false_iff_ne]; exact kY);have q2 : (pk L i != 92) = true := (by rw [bne, q1]; rfl);have eF := Lib.hid (fun (W : World) (h : aO W C A n c L i 0 p) => dY W C A n c L i p 2 i h);rcases (show pk L i < 0 ∨ 0 ≤ pk L i by omega) with h0 | h0
  ·clear hp kY;go_enter Tryz.func85, Tryz.ntmps85;go_wp2_with fail;refine (fA.out _ _ HC.out hi).mono ?_;rintro e w1 ⟨rfl, m, rfl⟩;have eH := Lib.hid (HC.out.drewN m);have d1 := eH.out.c1;go_wp2_with fail;refine (eF.out _ eH.out).mono ?_;rintro e w3 ⟨rfl, eC, bN⟩;have eL := Lib.hid eC;have bV := Lib.hid ((aF.drewN w C m).trans bN);clear eC bN;go_wp2_with fail;go_ret;rw [fX.out];exact ⟨⟨by decide, _, _, rfl, eL.out⟩, bV.out⟩
  have En := Lib.hid (fun (W : World) => show Calls Tryz.prog 83 #[.int .i32 (pk L i)] W fun e w' => e = .returned (.bool true) ∧ Below W.heap.size W w' by have := pW.out W; rwa [jT h0, hp] at this);clear hp kY;go_enter Tryz.func85, Tryz.ntmps85;go_wp2_with fail;refine (fA.out _ _ HC.out hi).mono ?_;rintro e w1 ⟨rfl, m, rfl⟩;go_wp2_with fail;refine (En.out _).mono ?_;rintro e w2 ⟨rfl, hb⟩;have fV := Lib.hid ((HC.out.drewN m).keep hb);have cS := Lib.hid ((aF.drewN w C m).trans (aF.below C hb));clear hb;have d1 := fV.out.c1;go_wp2_with fail;refine (eF.out _ fV.out).mono ?_;rintro e w3 ⟨rfl, eC, bN⟩;have eL := Lib.hid eC;have bV := Lib.hid (cS.out.trans bN);clear eC bN;go_wp2_with fail;go_ret;rw [fX.out];exact ⟨⟨by decide, _, _, rfl, eL.out⟩, bV.out⟩
end Go.Proofs.YthnhbcohfoodlaaGreatDoor
