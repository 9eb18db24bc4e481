/- RefWk + RefWk2 + WkGaps + WkWord -/
import Derived.Test.YthnhbcohfoodlaaGreatDoorZq7
import Derived.Test.YthnhbcohfoodlaaGreatDoorZq22
import Derived.Test.YthnhbcohfoodlaaGreatDoorZq17
import Derived.Test.YthnhbcohfoodlaaGreatDoorZq8
import Derived.Test.YthnhbcohfoodlaaGreatDoorZq6
set_option maxHeartbeats 3200000
set_option maxRecDepth 100000
namespace Go.Proofs.YthnhbcohfoodlaaGreatDoor
open Go.RowKit
structure aO (w : World) (C : Nat) (A : Option Addr) (n c : Nat) (L : List Int) (i e p : Int) : Prop where
  cX : ∃ t, aM w C t #[.slice A n c, .int .i64 i, .int .i64 e, .int .i64 p]
  row : di w (fun b => b ≠ C) 1 A n (ax L)
  size : n ≤ 4611686018427387904
  cap : n ≤ c
section
variable {w w' : World} {C : Nat} {A : Option Addr} {n c : Nat} {L : List Int} {i e p : Int}
theorem aO.len (h : aO w C A n c L i e p) : L.length = n := by
 have := h.row.1; rw [bt] at this; omega
theorem aO.lt (h : aO w C A n c L i e p) : C < w.heap.size := let ⟨_, hb⟩ := h.cX; hb.lt
theorem aO.c0 (h : aO w C A n c L i e p) : w.cell? ⟨C, 0, none⟩ = some (.slice A n c) := let ⟨_, hb⟩ := h.cX; hb.cell 0
theorem aO.c1 (h : aO w C A n c L i e p) : w.cell? ⟨C, 1, none⟩ = some (.int .i64 i) := let ⟨_, hb⟩ := h.cX; hb.cell 1
theorem aO.c2 (h : aO w C A n c L i e p) : w.cell? ⟨C, 2, none⟩ = some (.int .i64 e) := let ⟨_, hb⟩ := h.cX; hb.cell 2
theorem aO.c3 (h : aO w C A n c L i e p) : w.cell? ⟨C, 3, none⟩ = some (.int .i64 p) := let ⟨_, hb⟩ := h.cX; hb.cell 3
theorem aO.fz (h : aO w C A n c L i e p) (k : Nat) : w.frozen? ⟨C, k, none⟩ = false := let ⟨_, hb⟩ := h.cX; hb.frozen k
theorem aO.keep (h : aO w C A n c L i e p) (hb : Below w.heap.size w w') : aO w' C A n c L i e p := let ⟨t, hk⟩ := h.cX; ⟨⟨t, hk.below hb hk.lt⟩, h.row.keep (aC.any hb), h.size, h.cap⟩
theorem aO.drewN (h : aO w C A n c L i e p) (k : Nat) : aO (w.drewN k) C A n c L i e p := h.keep (below_drewN (Below.refl _ _) k)
theorem aO.u6 (h : aO w C A n c L i e p) (k : Nat) (u : Value) : di (w.setCell ⟨C, k, none⟩ u) (fun b => b ≠ C) 1 A n (ax L) :=
  h.row.keep ((aF.set w C k u).keeps (fun _ h => h) (fun _ h _ => h))
theorem aO.yJ (h : aO w C A n c L i e p) (j : Int) : aO (w.setCell ⟨C, 1, none⟩ (.int .i64 j)) C A n c L j e p := let ⟨t, hk⟩ := h.cX; ⟨⟨t, hk.put 1 _⟩, h.u6 1 _, h.size, h.cap⟩
theorem aO.Iw (h : aO w C A n c L i e p) (j : Int) : aO (w.setCell ⟨C, 2, none⟩ (.int .i64 j)) C A n c L i j p := let ⟨t, hk⟩ := h.cX; ⟨⟨t, hk.put 2 _⟩, h.u6 2 _, h.size, h.cap⟩
theorem aO.PG (h : aO w C A n c L i e p) (j : Int) : aO (w.setCell ⟨C, 3, none⟩ (.int .i64 j)) C A n c L i e j := let ⟨t, hk⟩ := h.cX; ⟨⟨t, hk.put 3 _⟩, h.u6 3 _, h.size, h.cap⟩
end
theorem aO.step {w : World} {C : Nat} {A : Option Addr} {n c : Nat} {L : List Int} {i e p : Int} (h : aO w C A n c L i e p) :
    w.cell? ⟨C, 1, none⟩ = some (.int .i64 i) ∧ w.frozen? ⟨C, 1, none⟩ = false ∧ aO (w.setCell ⟨C, 1, none⟩ (.int .i64 (i + 1))) C A n c L (i + 1) e p ∧ aF w C (w.setCell ⟨C, 1, none⟩ (.int .i64 (i + 1))) := ⟨h.c1, h.fz 1, h.yJ _, aF.set w C 1 _⟩
theorem AB (w : World) (C : Nat) (A : Option Addr) (n c : Nat) (L : List Int) (i e p : Int) (h : aO w C A n c L i e p) :
    Calls Tryz.prog 43 #[.pointer (some ⟨C, 0, none⟩)] w fun en w' => en = .returned (.bool (decide (e = 0))) ∧ w' = w := by
 have c2 := h.c2;clear h;go_enter Tryz.func43, Tryz.ntmps43;go_wp2_with fail;go_ret;exact ⟨cw (by first | rfl | (rw [Bool.eq_iff_iff]; simp)), rfl⟩
theorem cJ (w : World) (C : Nat) (A : Option Addr) (n c : Nat) (L : List Int) (i p : Int) (h : aO w C A n c L i 0 p) :
    Calls Tryz.prog 43 #[.pointer (some ⟨C, 0, none⟩)] w fun en w' => en = .returned (.bool true) ∧ w' = w := AB w C A n c L i 0 p h
theorem bE (w : World) (C : Nat) (A : Option Addr) (n c : Nat) (L : List Int) (i e p : Int) (h : aO w C A n c L i e p) (he : e ≠ 0) :
    Calls Tryz.prog 43 #[.pointer (some ⟨C, 0, none⟩)] w fun en w' => en = .returned (.bool false) ∧ w' = w := by
 have := AB w C A n c L i e p h;rwa [decide_eq_false he] at this
theorem dY (w : World) (C : Nat) (A : Option Addr) (n c : Nat) (L : List Int) (i p x q : Int) (h : aO w C A n c L i 0 p) :
    Calls Tryz.prog 44 #[.pointer (some ⟨C, 0, none⟩), .int .i64 x, .int .i64 q] w fun en w' => en = .returned (.tuple #[]) ∧ aO w' C A n c L i x q ∧ aF w C w' := by
 have HG := Lib.hid (cJ w C A n c L i p h);have f2 := h.fz 2;have k2 := h.c2;have Ie := Lib.hid ((h.Iw x).c3);have eI := Lib.hid ((h.Iw x).fz 3);have HW := Lib.hid ((h.Iw x).PG q);clear h;go_enter Tryz.func44, Tryz.ntmps44;go_wp2_with fail;refine HG.out.mono ?_;rintro e w1 ⟨rfl, rfl⟩;have f3 := eI.out;have k3 := Ie.out;go_wp2_with fail;go_end0;exact ⟨rfl, HW.out, (aF.set _ _ _ _).trans (aF.set _ _ _ _)⟩
theorem eK (w : World) (C : Nat) (A : Option Addr) (n c : Nat) (L : List Int) (i e p x q : Int) (h : aO w C A n c L i e p) (he : e ≠ 0) :
    Calls Tryz.prog 44 #[.pointer (some ⟨C, 0, none⟩), .int .i64 x, .int .i64 q] w fun en w' => en = .returned (.tuple #[]) ∧ w' = w := by
 have HG := Lib.hid (bE w C A n c L i e p h he);clear h;go_enter Tryz.func44, Tryz.ntmps44;go_wp2_with fail;refine HG.out.mono ?_;rintro e w1 ⟨rfl, rfl⟩;go_wp2_with fail;go_end0;exact ⟨rfl, rfl⟩
theorem qS (w : World) (C : Nat) (A : Option Addr) (n c : Nat) (L : List Int) (i k : Nat) (p : Int) (h : aO w C A n c L i 0 p) (hi : i ≤ n) (hk : k ≤ 1000) :
    Calls Tryz.prog 61 #[.pointer (some ⟨C, 0, none⟩), .int .i64 k] w fun e w' => e = .returned (.int .i32 (pk L (i + k))) ∧ ∃ m, w' = w.drewN m := by
 have HG := Lib.hid (fun k => cJ (w.drewN k) C A n c L i p (h.drewN k));have c0 := h.c0;have c1 := h.c1;have hl := h.len;have hs := h.size;have hw1 : IntKind.i64.wrap ((i : Int) + k) = ((i + k : Nat) : Int) := (by rw [wrap_small _ (by omega) (by omega)]; omega);by_cases hlt : i + k < n
 ·obtain ⟨x, hx⟩ : ∃ x, L[i + k]? = some x := ⟨_, List.getElem?_eq_getElem (by omega)⟩;rw [uh hx];obtain ⟨b, o, rfl, _, _, hc⟩ := h.row.2 (by omega);have d0 : w.cell? ⟨b, o + (i + k), none⟩ = some (.int .i32 x) := hc _ _ (by simp [ax, hx]);have hg : decide ((n : Int) ≤ ((i + k : Nat) : Int)) = false := decide_eq_false (by omega);have Cr : (0 : Int) ≤ ((i + k : Nat) : Int) := (by omega);have mT : ((i + k : Nat) : Int) < (n : Int) := (by omega);clear hc h hx hl;go_enter Tryz.func61, Tryz.ntmps61;go_wp2_with fail;go_quiet (first | (go_at_call 43; exact Calls.quiet_of_same (HG.out _)));go_wp2_with fail;go_quiet (fail);go_wp2_with fail;go_ret;exact ⟨rfl, _, by rw [World.drewN_drewN]⟩
 rw [lP (by omega)];have hg : decide ((n : Int) ≤ ((i + k : Nat) : Int)) = true := decide_eq_true (by omega);clear h hl;go_enter Tryz.func61, Tryz.ntmps61;go_wp2_with fail;go_quiet (first | (go_at_call 43; exact Calls.quiet_of_same (HG.out _)));go_wp2_with fail;go_ret;exact ⟨rfl, _, rfl⟩
theorem pZ (w : World) (C : Nat) (A : Option Addr) (n c : Nat) (L : List Int) (i e p k : Int) (h : aO w C A n c L i e p) (he : e ≠ 0) :
    Calls Tryz.prog 61 #[.pointer (some ⟨C, 0, none⟩), .int .i64 k] w fun e w' => e = .returned (.int .i32 (-1)) ∧ ∃ m, w' = w.drewN m := by
 have HG := Lib.hid (fun k => bE (w.drewN k) C A n c L i e p (h.drewN k) he);clear h;go_enter Tryz.func61, Tryz.ntmps61;go_wp2_with fail;go_quiet (first | (go_at_call 43; exact Calls.quiet_of_same (HG.out _)));go_wp2_with fail;go_ret;exact ⟨rfl, _, rfl⟩
theorem gJ (w : World) (C : Nat) (A : Option Addr) (n c : Nat) (L : List Int) (i : Nat) (p : Int) (h : aO w C A n c L i 0 p) (hi : i ≤ n) :
    Calls Tryz.prog 61 #[.pointer (some ⟨C, 0, none⟩), .int .i64 0] w fun e w' => e = .returned (.int .i32 (pk L i)) ∧ ∃ m, w' = w.drewN m := qS w C A n c L i 0 p h hi (Nat.zero_le _)
theorem yo (w : World) (C : Nat) (A : Option Addr) (n c : Nat) (L : List Int) (i : Nat) (p : Int) (h : aO w C A n c L i 0 p) (hi : i ≤ n) :
    Calls Tryz.prog 61 #[.pointer (some ⟨C, 0, none⟩), .int .i64 1] w fun e w' => e = .returned (.int .i32 (pk L (i + 1))) ∧ ∃ m, w' = w.drewN m := qS w C A n c L i 1 p h hi (by omega)
theorem eY (w : World) (C : Nat) (A : Option Addr) (n c : Nat) (L : List Int) (i e p k : Int) (h : aO w C A n c L i e p) (he : e ≠ 0) :
    Calls Tryz.prog 61 #[.pointer (some ⟨C, 0, none⟩), .int .i64 k] w fun en w' => en = .returned (.int .i32 (-1)) ∧ aO w' C A n c L i e p ∧ aF w C w' := by
 refine (pZ w C A n c L i e p k h he).mono ?_;rintro en w1 ⟨rfl, m, rfl⟩;exact ⟨rfl, h.drewN m, aF.drewN w C m⟩
def RI (w : World) (C : Nat) (A : Option Addr) (n c : Nat) (L : List Int) (p : Int) (r : Except (Int × Nat) Nat) (w' : World) : Prop :=
  (match r with | .ok j => j ≤ n ∧ aO w' C A n c L j 0 p | .error (x, q) => x ≠ 0 ∧ ∃ i, aO w' C A n c L i x q) ∧ aF w C w'
theorem l7 (w : World) (C : Nat) (A : Option Addr) (n c : Nat) (L : List Int) (i : Nat) (p : Int) (h : aO w C A n c L i 0 p) (hi : i ≤ n) :
    Calls Tryz.prog 41 #[.pointer (some ⟨C, 0, none⟩)] w fun e w' => e = .returned (.tuple #[]) ∧ aO w' C A n c L (aG L i : Nat) 0 p ∧ aF w C w' := by
 have HC := Lib.hid h;have hs := h.size;have hl := h.len;clear h;go_enter Tryz.func41, Tryz.ntmps41;go_wp2_with fail;go_loopw [2] (fun _ wr => ∃ j : Nat, j ≤ n ∧ aG L i = aG L j ∧ aO wr C A n c L j 0 p ∧ aF w C wr) (fun _ wr => n - (match wr.cell? ⟨C, 1, none⟩ with | some (.int _ j) => j.toNat | _ => 0));(case atStart => exact ⟨i, hi, rfl, HC.out, aF.refl _ _⟩);obtain ⟨j, hj, Al, hc, hb⟩ := hrel;have HJ := Lib.hid hc;have HB := Lib.hid hb;have HS := Lib.hid Al;have fA := Lib.hid (fun (W : World) (h : aO W C A n c L j 0 p) => gJ W C A n c L j p h hj);have hm0 := hc.c1;have gT := Lib.hid hm0;have hw1 : IntKind.i64.wrap ((j : Int) + 1) = ((j + 1 : Nat) : Int) := (by rw [wrap_small _ (by omega) (by omega)]; omega);have iz := Lib.hid (fun (W : World) (h : aO W C A n c L j 0 p) (hb : aF w C W) (oo : jq (pk L j) = true) => show (∃ j2 : Nat, j2 ≤ n ∧ aG L i = aG L j2 ∧ aO (W.setCell ⟨C, 1, none⟩ (.int .i64 ((j : Int) + 1))) C A n c L j2 0 p ∧ aF w C (W.setCell ⟨C, 1, none⟩ (.int .i64 ((j : Int) + 1)))) ∧ n - (match (W.setCell ⟨C, 1, none⟩ (.int .i64 ((j : Int) + 1))).cell? ⟨C, 1, none⟩ with | some (.int _ j) => j.toNat | _ => 0) < n - (match wr.cell? ⟨C, 1, none⟩ with | some (.int _ j) => j.toNat | _ => 0) by
  have hlt : j < L.length := aS (fun e => by rw [e] at oo; exact absurd oo (by decide));have xN := h.yJ ((j : Int) + 1);refine ⟨⟨j + 1, by omega, HS.out.trans (bD hlt oo), by rw [show (((j + 1 : Nat)) : Int) = (j : Int) + 1 by omega]; exact xN, hb.trans (aF.set _ C 1 _)⟩, ?_⟩;rw [xN.c1, gT.out];simp only [Int.toNat_natCast];omega)
 have eF := Lib.hid (fun (oo : jq (pk L j) = false) => show aG L i = j from HS.out.trans (bw (fun _ => oo)));clear hc hb Al hm0 HS gT;go_wp2_with fail;refine (fA.out _ HJ.out).mono ?_;rintro e w1 ⟨rfl, m1, Ec⟩;have eH := Lib.hid (HJ.out.drewN m1);have b8 := Lib.hid (HB.out.trans (aF.drewN wr C m1));rw [← Ec] at eH b8;clear Ec;by_cases h1 : pk L j = 32
 ·have HR := Lib.hid (iz.out _ eH.out b8.out (by rw [h1]; rfl));rw [h1];have d1 := eH.out.c1;have d2 := eH.out.fz 1;go_wp2_with fail;exact HR.out
 have q1 : decide (pk L j = 32) = false := decide_eq_false h1;have Vf : (pk L j == 32) = false := (by rw [beq_eq_false_iff_ne]; exact h1);go_wp2_with fail;refine (fA.out _ eH.out).mono ?_;rintro e w2 ⟨rfl, m2, Nx⟩;have fV := Lib.hid (eH.out.drewN m2);have cS := Lib.hid (b8.out.trans (aF.drewN w1 C m2));rw [← Nx] at fV cS;clear Nx;by_cases h2 : pk L j = 9
 ·have HR := Lib.hid (iz.out _ fV.out cS.out (by rw [h2]; rfl));rw [h2];have d1 := fV.out.c1;have d2 := fV.out.fz 1;go_wp2_with fail;exact HR.out
 have q2 : decide (pk L j = 9) = false := decide_eq_false h2;have U2 : (pk L j == 9) = false := (by rw [beq_eq_false_iff_ne]; exact h2);go_wp2_with fail;refine (fA.out _ fV.out).mono ?_;rintro e w3 ⟨rfl, m3, NG⟩;have eL := Lib.hid (fV.out.drewN m3);have bV := Lib.hid (cS.out.trans (aF.drewN w2 C m3));rw [← NG] at eL bV;clear NG;by_cases h3 : pk L j = 10
 ·have HR := Lib.hid (iz.out _ eL.out bV.out (by rw [h3]; rfl));rw [h3];have d1 := eL.out.c1;have d2 := eL.out.fz 1;go_wp2_with fail;exact HR.out
 have q3 : decide (pk L j = 10) = false := decide_eq_false h3;have TJ : (pk L j == 10) = false := (by rw [beq_eq_false_iff_ne]; exact h3);have HE := Lib.hid (eF.out (by unfold jq; rw [q1, q2, q3]; rfl));go_wp2_with fail;go_end0;rw [HE.out];exact ⟨rfl, eL.out, bV.out⟩
theorem tT (w : World) (C : Nat) (A : Option Addr) (n c : Nat) (L : List Int) (i e p : Int) (h : aO w C A n c L i e p) (he : e ≠ 0) :
    Calls Tryz.prog 41 #[.pointer (some ⟨C, 0, none⟩)] w fun en w' => en = .returned (.tuple #[]) ∧ aO w' C A n c L i e p ∧ aF w C w' := by
 have HS := Lib.hid (fun (W : World) (h : aO W C A n c L i e p) => eY W C A n c L i e p 0 h he);have H0 := Lib.hid h;clear h;go_enter Tryz.func41, Tryz.ntmps41;go_wp2_with fail;go_loopw [2] (fun _ wr => w = wr) (fun _ _ => 0);(case atStart => rfl);subst hrel;go_wp2_with fail;refine (HS.out _ H0.out).mono ?_;rintro en w1 ⟨rfl, dh, aT⟩;have H1 := Lib.hid dh;have B1 := Lib.hid aT;clear dh aT;go_wp2_with fail;refine (HS.out _ H1.out).mono ?_;rintro en w2 ⟨rfl, dQ, aU⟩;have H2 := Lib.hid dQ;have B2 := Lib.hid (B1.out.trans aU);clear dQ aU;go_wp2_with fail;refine (HS.out _ H2.out).mono ?_;rintro en w3 ⟨rfl, eC, bN⟩;have H3 := Lib.hid eC;have B3 := Lib.hid (B2.out.trans bN);clear eC bN;go_wp2_with fail;go_end0;exact ⟨rfl, H3.out, B3.out⟩
theorem jI (w : World) (C : Nat) (A : Option Addr) (n c : Nat) (L : List Int) (i : Nat) (p r : Int) (h : aO w C A n c L i 0 p) (hi : i ≤ n) (hr : r ≠ -1) :
    Calls Tryz.prog 63 #[.pointer (some ⟨C, 0, none⟩), .int .i32 r] w fun en w' => en = .returned (.tuple #[]) ∧ RI w C A n c L p (aH L i r) w' := by
 have fA := Lib.hid (gJ w C A n c L i p h hi);have HC := Lib.hid h;have hs := h.size;have hl := h.len;have hw1 : IntKind.i64.wrap ((i : Int) + 1) = (i : Int) + 1 := wrap_small _ (by omega) (by omega);clear h;unfold aH;by_cases he : pk L i = r
 ·have hlt : i < L.length := aS (by omega);rw [if_pos he];have q1 : (pk L i == r) = true := (by rw [beq_iff_eq]; exact he);have q2 : (pk L i != r) = false := (by rw [bne, q1]; rfl);go_enter Tryz.func63, Tryz.ntmps63;go_wp2_with fail;refine fA.out.mono ?_;rintro e w1 ⟨rfl, m, rfl⟩;have eH := Lib.hid (HC.out.drewN m);obtain ⟨d1, d2, d3, d4⟩ := eH.out.step;have fV := Lib.hid d3;have cS := Lib.hid ((aF.drewN w C m).trans d4);clear d3 d4;go_wp2_with fail;go_end0;refine ⟨rfl, ⟨by omega, ?_⟩, cS.out⟩;rw [show (((i + 1 : Nat)) : Int) = (i : Int) + 1 by omega];exact fV.out
 rw [if_neg he];have q1 : (pk L i == r) = false := (by rw [beq_eq_false_iff_ne]; exact he);have q2 : (pk L i != r) = true := (by rw [bne, q1]; rfl);go_enter Tryz.func63, Tryz.ntmps63;go_wp2_with fail;refine fA.out.mono ?_;rintro e w1 ⟨rfl, m, rfl⟩;have eH := Lib.hid (HC.out.drewN m);have d1 := eH.out.c1;go_wp2_with fail;refine (dY _ C A n c L i p 2 i eH.out).mono ?_;rintro e w2 ⟨rfl, dQ, aU⟩;have fV := Lib.hid dQ;have cS := Lib.hid ((aF.drewN w C m).trans aU);clear dQ aU;go_wp2_with fail;(try simp only [Exit.inBlock, Exit.then]);refine bodyPost_ret (results_none rfl _ _ _) rfl ?_;exact ⟨rfl, ⟨by decide, _, fV.out⟩, cS.out⟩
theorem eJ (w : World) (C : Nat) (A : Option Addr) (n c : Nat) (L : List Int) (i e p r : Int) (h : aO w C A n c L i e p) (he : e ≠ 0) (hr : r ≠ -1) :
    Calls Tryz.prog 63 #[.pointer (some ⟨C, 0, none⟩), .int .i32 r] w fun en w' => en = .returned (.tuple #[]) ∧ aO w' C A n c L i e p ∧ aF w C w' := by
 have HS := Lib.hid (eY w C A n c L i e p 0 h he);have q1 : ((-1 : Int) == r) = false := (by rw [beq_eq_false_iff_ne]; exact fun h => hr h.symm);have q2 : ((-1 : Int) != r) = true := (by rw [bne, q1]; rfl);clear h;go_enter Tryz.func63, Tryz.ntmps63;go_wp2_with fail;refine HS.out.mono ?_;rintro en w1 ⟨rfl, dh, aT⟩;have H1 := Lib.hid dh;have B1 := Lib.hid aT;have d1 := dh.c1;clear dh aT;go_wp2_with fail;refine (eK _ C A n c L i e p 2 i H1.out he).mono ?_;rintro en w2 ⟨rfl, yQ⟩;subst yQ;go_wp2_with fail;(try simp only [Exit.inBlock, Exit.then]);refine bodyPost_ret (results_none rfl _ _ _) rfl ?_;exact ⟨rfl, H1.out, B1.out⟩
theorem qJ (w : World) (C : Nat) (A : Option Addr) (n c : Nat) (L : List Int) (i : Nat) (p : Int) (h : aO w C A n c L i 0 p) (hi : i ≤ n) :
    Calls Tryz.prog 60 #[.pointer (some ⟨C, 0, none⟩)] w fun e w' => e = .returned (.tuple #[]) ∧ aO w' C A n c L (aj L i : Nat) 0 p ∧ aF w C w' := by
 have HC := Lib.hid h;have hs := h.size;have hl := h.len;have Al : aG L i ≤ n := (by rw [← hl]; exact jY (by omega));have yC := Lib.hid (l7 w C A n c L i p h hi);clear h;go_enter Tryz.func60, Tryz.ntmps60;go_wp2_with fail;refine yC.out.mono ?_;rintro e w1 ⟨rfl, dh, aT⟩;have eH := Lib.hid dh;have b8 := Lib.hid aT;clear dh aT;go_wp2_with fail;go_loopw [6] (fun _ wr => ∃ q j : Nat, j ≤ n ∧ aG L q = j ∧ aj L i = aj L q ∧ aO wr C A n c L j 0 p ∧ aF w C wr) (fun _ wr => n - (match wr.cell? ⟨C, 1, none⟩ with | some (.int _ j) => j.toNat | _ => 0));(case atStart => exact ⟨i, aG L i, Al, rfl, rfl, eH.out, b8.out⟩);obtain ⟨q, j, hj, hq, hsp, hc, hb⟩ := hrel;have HJ := Lib.hid hc;have HB := Lib.hid hb;have gT := Lib.hid hc.c1;have fA := Lib.hid (fun (W : World) (m : Nat) (h : aO W C A n c L m 0 p) (hm : m ≤ n) => gJ W C A n c L m p h hm);have I8 := hsp.trans (kj L q);rw [hq] at I8;have pW := Lib.hid I8;clear hc hb hsp I8 hq;go_wp2_with fail;refine (fA.out _ j HJ.out hj).mono ?_;rintro e w2 ⟨rfl, m2, yQ⟩;have fV := Lib.hid (HJ.out.drewN m2);have cS := Lib.hid (HB.out.trans (aF.drewN wr C m2));rw [← yQ] at fV cS;clear yQ;by_cases kZ : pk L j = 35
 ·have hlt := (vU kZ).1;have fU := Lib.hid (show aj L i = aj L (aq jx L j) by rw [pW.out, if_pos kZ]);have JM := Lib.hid (vU kZ).2;have QH := Lib.hid (show aq jx L j ≤ n by rw [← hl]; exact (dA (Nat.le_of_lt hlt)).2);obtain ⟨m0, hm0⟩ : ∃ m0, aq jx L j = m0 := ⟨_, rfl⟩;rw [hm0] at fU JM QH;have HM := Lib.hid hm0;rw [kZ];clear hm0 kZ;go_wp2_with fail;go_loopw [15] (fun _ wy => ∃ m : Nat, j ≤ m ∧ m ≤ n ∧ m0 = aq jx L m ∧ aO wy C A n c L m 0 p ∧ aF w C wy) (fun _ wy => n - (match wy.cell? ⟨C, 1, none⟩ with | some (.int _ j) => j.toNat | _ => 0));(case atStart => exact ⟨j, Nat.le_refl _, by omega, HM.out.symm, fV.out, cS.out⟩);obtain ⟨m, hkm, hmn, hrun, JQ, NF⟩ := hrel;have E9 := Lib.hid JQ;have Io := Lib.hid NF;have CS := Lib.hid hrun;have FW := Lib.hid JQ.c1;clear JQ NF hrun;cases hrem : jx (pk L m) with
  | true =>
   have IW : m < L.length := aS (fun e => by rw [e] at hrem; exact absurd hrem (by decide));have Cj := Lib.hid (CS.out.trans (bD IW hrem));have h0 : 0 ≤ pk L m ∧ pk L m ≠ 10 := (by simpa [jx] using hrem);have hg0 : decide ((0 : Int) ≤ pk L m) = true := decide_eq_true h0.1;have hg1 : (pk L m != 10) = true := (by simp; exact h0.2);have Ro : IntKind.i64.wrap ((m : Int) + 1) = (m : Int) + 1 := wrap_small _ (by omega) (by omega);clear hrem h0;go_wp2_with fail;refine (fA.out _ m E9.out hmn).mono ?_;rintro e w3 ⟨rfl, m3, jy⟩;have eL := Lib.hid (E9.out.drewN m3);have bV := Lib.hid (Io.out.trans (aF.drewN _ C m3));rw [← jy] at eL bV;clear jy;go_wp2_with fail;refine (fA.out _ m eL.out hmn).mono ?_;rintro e w4 ⟨rfl, m4, oP⟩;have kL := Lib.hid (eL.out.drewN m4);have cG := Lib.hid (bV.out.trans (aF.drewN _ C m4));rw [← oP] at kL cG;clear oP;obtain ⟨d1, d2, d3, d4⟩ := kL.out.step;have tv := Lib.hid d3;have dM := Lib.hid (cG.out.trans d4);clear d3 d4;go_wp2_with fail;refine ⟨⟨m + 1, by omega, by omega, Cj.out, tv.out, dM.out⟩, ?_⟩;rw [tv.out.c1, FW.out];simp only [Int.toNat_natCast];omega
  | false =>
   obtain rfl : m0 = m := CS.out.trans (bw (fun _ => hrem));have s9 : pk L m0 < 0 ∨ (0 ≤ pk L m0 ∧ pk L m0 = 10) := by
    simp [jx] at hrem;by_cases h : pk L m0 < 0;exact .inl h;exact .inr ⟨by omega, hrem (by omega)⟩
   have hge := JM.out;have Mi : aG L m0 ≤ n := (by rw [← hl]; exact jY (by omega));have Vb : m0 ≤ aG L m0 := cL L m0;have LM := Lib.hid (fun (W : World) (h : aO W C A n c L m0 0 p) => l7 W C A n c L m0 p h hmn);clear hrem CS;rcases s9 with h0 | ⟨_, h0⟩
   ·have hg0 : decide ((0 : Int) ≤ pk L m0) = false := decide_eq_false (by omega);go_wp2_with fail;refine (fA.out _ m0 E9.out hmn).mono ?_;rintro e w3 ⟨rfl, m3, jy⟩;have eL := Lib.hid (E9.out.drewN m3);have bV := Lib.hid (Io.out.trans (aF.drewN _ C m3));rw [← jy] at eL bV;clear jy;go_wp2_with fail;refine (LM.out _ eL.out).mono ?_;rintro e w5 ⟨rfl, eV, cr⟩;have kn := Lib.hid eV;have dM := Lib.hid (bV.out.trans cr);clear eV cr;go_wp2_with fail;refine ⟨⟨m0, aG L m0, Mi, rfl, fU.out, kn.out, dM.out⟩, ?_⟩;rw [kn.out.c1, gT.out];simp only [Int.toNat_natCast];omega
   go_wp2_with fail;refine (fA.out _ m0 E9.out hmn).mono ?_;rintro e w3 ⟨rfl, m3, jy⟩;rw [h0];have eL := Lib.hid (E9.out.drewN m3);have bV := Lib.hid (Io.out.trans (aF.drewN _ C m3));rw [← jy] at eL bV;clear jy;go_wp2_with fail;refine (fA.out _ m0 eL.out hmn).mono ?_;rintro e w4 ⟨rfl, m4, oP⟩;rw [h0];have kL := Lib.hid (eL.out.drewN m4);have cG := Lib.hid (bV.out.trans (aF.drewN _ C m4));rw [← oP] at kL cG;clear oP;go_wp2_with fail;refine (LM.out _ kL.out).mono ?_;rintro e w5 ⟨rfl, eV, cr⟩;have kn := Lib.hid eV;have dM := Lib.hid (cG.out.trans cr);clear eV cr;go_wp2_with fail;refine ⟨⟨m0, aG L m0, Mi, rfl, fU.out, kn.out, dM.out⟩, ?_⟩;rw [kn.out.c1, gT.out];simp only [Int.toNat_natCast];omega
 have hO := Lib.hid (show aj L i = j by rw [pW.out, if_neg kZ]);have hq : (pk L j == 35) = false := (by rw [beq_eq_false_iff_ne]; exact kZ);clear kZ;go_wp2_with fail;go_end0;rw [hO.out];exact ⟨rfl, fV.out, cS.out⟩
theorem ye (w : World) (C : Nat) (A : Option Addr) (n c : Nat) (L : List Int) (i e p : Int) (h : aO w C A n c L i e p) (he : e ≠ 0) :
    Calls Tryz.prog 60 #[.pointer (some ⟨C, 0, none⟩)] w fun en w' => en = .returned (.tuple #[]) ∧ aO w' C A n c L i e p ∧ aF w C w' := by
 have HS := Lib.hid (fun (W : World) (h : aO W C A n c L i e p) => eY W C A n c L i e p 0 h he);have yC := Lib.hid (tT w C A n c L i e p h he);clear h;go_enter Tryz.func60, Tryz.ntmps60;go_wp2_with fail;refine yC.out.mono ?_;rintro en w1 ⟨rfl, dh, aT⟩;have H1 := Lib.hid dh;have B1 := Lib.hid aT;clear dh aT;go_wp2_with fail;go_loopw [6] (fun _ wr => w1 = wr) (fun _ _ => 0);(case atStart => rfl);subst hrel;go_wp2_with fail;refine (HS.out _ H1.out).mono ?_;rintro en w2 ⟨rfl, dQ, aU⟩;have H2 := Lib.hid dQ;have B2 := Lib.hid (B1.out.trans aU);clear dQ aU;go_wp2_with fail;go_end0;exact ⟨rfl, H2.out, B2.out⟩
theorem l5 (r : Int) : jM r = eN r := by rw [Bool.eq_iff_iff]; simp [jM, eN]
theorem FE {s k : ByteArray} (h : s ≠ k) : (s.toList == k.data.toList) = false := by
 rw [beq_eq_false_iff_ne, ByteArray.toList_eq];exact fun e => h (ByteArray.ext (Array.ext' e))
def wB (r : Int) : Bool := eN r || oD r
theorem Aw (l : List Int) (x : Int) : runesBytes (l ++ [x]) = runesBytes l ++ Utf8.encode x := by
 unfold runesBytes; rw [List.foldl_append]; rfl
theorem pJ {L : List Int} {i m : Nat} (Oa : i ≤ m) (hm : m < L.length) : ay L i (m + 1) = ay L i m ++ [pk L m] := by
 unfold ay;rw [show m + 1 - i = (m - i) + 1 by omega];refine BT ?_;rw [List.getElem?_drop, show i + (m - i) = m by omega, List.getElem?_eq_getElem hm];simp [pk, List.getElem?_eq_getElem hm]
theorem oH (L : List Int) (i : Nat) : ay L i i = [] := by unfold ay; simp
theorem Gg {r : Int} (h : eN r = true) : 0 ≤ r ∧ r < 128 := by simp [eN] at h; omega
theorem Gl {L : List Int} {i m : Nat} (Oa : i < m) (h : eN (pk L i) = true) : runesBytes (ay L i m) ≠ (⟨#[]⟩ : ByteArray) := by
 have hl := Gg h;have hi : i < L.length := aS (by omega);intro e;have e2 := congrArg (fun s : ByteArray => s.data.toList) e;simp only [iJ] at e2;have e3 : ay L i m = pk L i :: ay L (i + 1) m := by
  unfold ay;rw [List.drop_eq_getElem_cons hi, show m - i = (m - (i + 1)) + 1 by omega, List.take_succ_cons];simp [pk, List.getElem?_eq_getElem hi]
 rw [e3, List.flatMap_cons, nk hl.1 hl.2] at e2;cases e2
theorem nH {r : Int} (h : wB r = true) : (Utf8.encode r).size = 1 := by
 have hl : 0 ≤ r ∧ r < 128 := (by simp [wB, eN, oD] at h; omega);have := congrArg List.length (nk hl.1 hl.2);rw [Array.length_toList] at this;exact this
theorem FV : runesBytes [] = (⟨#[]⟩ : ByteArray) := rfl
theorem qH (w : World) (C : Nat) (A : Option Addr) (n c : Nat) (L : List Int) (i : Nat) (p : Int) (h : aO w C A n c L i 0 p) (hi : i ≤ n) :
    Calls Tryz.prog 102 #[.pointer (some ⟨C, 0, none⟩)] w fun e w' => e = .returned (.string (cI L i)) ∧ (cI L i).size ≤ n ∧ aO w' C A n c L (aI L i : Nat) 0 p ∧ aF w C w' := by
 have HC := Lib.hid h;have hs := h.size;have hl := h.len;clear h;go_enter Tryz.func102, Tryz.ntmps102;go_wp2_with fail;go_loopw [3] (fun s wr => ∃ m : Nat, i ≤ m ∧ m ≤ n ∧ s = .string (runesBytes (ay L i m)) ∧ (runesBytes (ay L i m)).size = m - i ∧ (m = i ∨ i < m ∧ eN (pk L i) = true ∧ aq wB L i = aq wB L m) ∧ aO wr C A n c L m 0 p ∧ aF w C wr) (fun _ wr => n - (match wr.cell? ⟨C, 1, none⟩ with | some (.int _ j) => j.toNat | _ => 0));(case atStart => exact ⟨i, Nat.le_refl _, hi, by rw [oH]; rfl, by rw [oH, Nat.sub_self]; rfl, .inl rfl, HC.out, aF.refl _ _⟩);obtain ⟨m, Oa, hmn, rfl, hz, s9, hc, hb⟩ := hrel;obtain ⟨t, ht⟩ : ∃ t, runesBytes (ay L i m) = t := ⟨_, rfl⟩;rw [ht] at hz;have HT := Lib.hid ht;have HZ := Lib.hid hz;have HJ := Lib.hid hc;have HB := Lib.hid hb;have gT := Lib.hid hc.c1;have E2 := Lib.hid s9;have fA := Lib.hid (fun (W : World) (h : aO W C A n c L m 0 p) => gJ W C A n c L m p h hmn);have hw1 : IntKind.i64.wrap ((m : Int) + 1) = ((m + 1 : Nat) : Int) := (by rw [wrap_small _ (by omega) (by omega)]; omega)
 have iz := Lib.hid (fun (W : World) (h : aO W C A n c L m 0 p) (hb : aF w C W) (ML : wB (pk L m) = true) (h0 : m = i → eN (pk L m) = true) => show (∃ m2 : Nat, i ≤ m2 ∧ m2 ≤ n ∧ Value.string (t ++ Utf8.encode (pk L m)) = .string (runesBytes (ay L i m2)) ∧ (runesBytes (ay L i m2)).size = m2 - i ∧ (m2 = i ∨ i < m2 ∧ eN (pk L i) = true ∧ aq wB L i = aq wB L m2) ∧ aO (W.setCell ⟨C, 1, none⟩ (.int .i64 ((m : Int) + 1))) C A n c L m2 0 p ∧ aF w C (W.setCell ⟨C, 1, none⟩ (.int .i64 ((m : Int) + 1)))) ∧
     n - (match (W.setCell ⟨C, 1, none⟩ (.int .i64 ((m : Int) + 1))).cell? ⟨C, 1, none⟩ with | some (.int _ j) => j.toNat | _ => 0) < n - (match wr.cell? ⟨C, 1, none⟩ with | some (.int _ j) => j.toNat | _ => 0) by
   have hlt : m < L.length := aS (fun e => by rw [e] at ML; exact absurd ML (by decide))
   have xN := h.yJ ((m : Int) + 1)
   refine ⟨⟨m + 1, by omega, by omega, by rw [pJ Oa hlt, Aw, HT.out], by rw [pJ Oa hlt, Aw, HT.out, ByteArray.size_append, nH ML, HZ.out]; omega, .inr ⟨by omega, ?_, ?_⟩, by rw [show (((m + 1 : Nat)) : Int) = (m : Int) + 1 by omega]; exact xN, hb.trans (aF.set _ C 1 _)⟩, ?_⟩
   · rcases E2.out with e | ⟨_, h2, _⟩
     · rw [← e]; exact h0 e
     · exact h2
   · rcases E2.out with e | ⟨_, _, h3⟩
     · rw [← e]; exact bD hlt ML
     · exact h3.trans (bD hlt ML)
   · rw [xN.c1, gT.out]
     simp only [Int.toNat_natCast]
     omega)
 have hO := Lib.hid (fun (hn : eN (pk L m) = false) (h2 : m ≠ i → wB (pk L m) = false) => show aI L i = m by
  unfold aI;rcases E2.out with e | ⟨h3, h4, h5⟩
  ·rw [← e, if_neg (by rw [hn]; decide)]
  rw [if_pos h4];exact h5.trans (bw (fun _ => h2 (by omega))))
 rw [ht];clear hc hb gT ht hz s9;go_wp2_with fail;refine (fA.out _ HJ.out).mono ?_;rintro e w1 ⟨rfl, m1, Ec⟩;have eH := Lib.hid (HJ.out.drewN m1);have b8 := Lib.hid (HB.out.trans (aF.drewN wr C m1));rw [← Ec] at eH b8;clear Ec;cases kq : eN (pk L m) with
 | true =>
  have HF := Lib.hid (fun W => show Calls Tryz.prog 65 #[.int .i32 (pk L m)] W fun e w' => e = .returned (.bool true) ∧ W = w' by have := f9 (pk L m) W; rwa [l5, kq] at this);go_wp2_with fail;refine (HF.out _).mono ?_;rintro e w2 ⟨rfl, rfl⟩;go_wp2_with fail;refine (fA.out _ eH.out).mono ?_;rintro e w3 ⟨rfl, m3, jy⟩;have eL := Lib.hid (eH.out.drewN m3);have bV := Lib.hid (b8.out.trans (aF.drewN _ C m3));rw [← jy] at eL bV;clear jy;have d1 := eL.out.c1;have d2 := eL.out.fz 1;have LH : wB (pk L m) = true := (by unfold wB; rw [kq]; rfl);have HR := Lib.hid (iz.out _ eL.out bV.out LH (fun _ => kq));have hsum : t.size + (Utf8.encode (pk L m)).size ≤ 9223372036854775807 := (by rw [HZ.out, nH LH]; omega);go_wp2_with fail;exact HR.out
 | false =>
  have HF := Lib.hid (fun W => show Calls Tryz.prog 65 #[.int .i32 (pk L m)] W fun e w' => e = .returned (.bool false) ∧ W = w' by have := f9 (pk L m) W; rwa [l5, kq] at this);by_cases No : m = i
  ·have HE := Lib.hid (hO.out kq (fun h => absurd No h));obtain rfl : t = (⟨#[]⟩ : ByteArray) := (by rw [← HT.out, No, oH]; exact FV);clear No;go_wp2_with fail;refine (HF.out _).mono ?_;rintro e w2 ⟨rfl, rfl⟩;go_wp2_with fail;go_ret;have G0 := (show cI L i = runesBytes (ay L i m) by unfold cI; rw [HE.out]).trans HT.out;rw [HE.out];exact ⟨congrArg (fun s => Ending.returned (Value.string s)) G0.symm, Nat.le_trans (Nat.le_of_eq ((congrArg ByteArray.size G0).trans HZ.out)) (by omega), eH.out, b8.out⟩
  have nO : i < m := (by omega);have PM : eN (pk L i) = true := by
   rcases E2.out with e | ⟨_, h4, _⟩;exact absurd e No;exact h4
  have hq : (t.toList == ([] : List UInt8)) = false := FE (k := ⟨#[]⟩) (by rw [← HT.out]; exact Gl nO PM);have KB : t.toList.isEmpty = false := (by rw [← List.beq_nil_eq]; exact hq);go_wp2_with fail;refine (HF.out _).mono ?_;rintro e w2 ⟨rfl, rfl⟩;go_wp2_with fail;refine (fA.out _ eH.out).mono ?_;rintro e w3 ⟨rfl, m3, jy⟩;have eL := Lib.hid (eH.out.drewN m3);have bV := Lib.hid (b8.out.trans (aF.drewN _ C m3));rw [← jy] at eL bV;clear jy;by_cases h48 : 48 ≤ pk L m
  ·have g1 : decide ((48 : Int) ≤ pk L m) = true := decide_eq_true h48;go_wp2_with fail;refine (fA.out _ eL.out).mono ?_;rintro e w4 ⟨rfl, m4, oP⟩;have kL := Lib.hid (eL.out.drewN m4);have cG := Lib.hid (bV.out.trans (aF.drewN _ C m4));rw [← oP] at kL cG;clear oP;by_cases Sq : pk L m ≤ 57
   ·have g2 : decide (pk L m ≤ 57) = true := decide_eq_true Sq;go_wp2_with fail;refine (fA.out _ kL.out).mono ?_;rintro e w5 ⟨rfl, m5, kP⟩;have kn := Lib.hid (kL.out.drewN m5);have dM := Lib.hid (cG.out.trans (aF.drewN _ C m5));rw [← kP] at kn dM;clear kP;have d1 := kn.out.c1;have d2 := kn.out.fz 1;have LH : wB (pk L m) = true := (by unfold wB oD; rw [g1, g2]; simp);have HR := Lib.hid (iz.out _ kn.out dM.out LH (fun h => absurd h No));have hsum : t.size + (Utf8.encode (pk L m)).size ≤ 9223372036854775807 := (by rw [HZ.out, nH LH]; omega);go_wp2_with fail;exact HR.out
   have g2 : decide (pk L m ≤ 57) = false := decide_eq_false Sq;have HE := Lib.hid (hO.out kq (fun _ => by unfold wB oD; rw [kq, g2]; simp));go_wp2_with fail;go_ret;have G0 := (show cI L i = runesBytes (ay L i m) by unfold cI; rw [HE.out]).trans HT.out;rw [HE.out];exact ⟨congrArg (fun s => Ending.returned (Value.string s)) G0.symm, Nat.le_trans (Nat.le_of_eq ((congrArg ByteArray.size G0).trans HZ.out)) (by omega), kL.out, cG.out⟩
  have g1 : decide ((48 : Int) ≤ pk L m) = false := decide_eq_false h48;have HE := Lib.hid (hO.out kq (fun _ => by unfold wB oD; rw [kq, g1]; simp));go_wp2_with fail;go_ret;have G0 := (show cI L i = runesBytes (ay L i m) by unfold cI; rw [HE.out]).trans HT.out;rw [HE.out];exact ⟨congrArg (fun s => Ending.returned (Value.string s)) G0.symm, Nat.le_trans (Nat.le_of_eq ((congrArg ByteArray.size G0).trans HZ.out)) (by omega), eL.out, bV.out⟩
end Go.Proofs.YthnhbcohfoodlaaGreatDoor
