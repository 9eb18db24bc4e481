/- RdSpace + RdWord + RdName -/
import Derived.Test.YthnhbcohfoodlaaGreatDoorZq17
import Derived.Test.YthnhbcohfoodlaaGreatDoorZq30
set_option maxHeartbeats 6400000
set_option maxRecDepth 100000
namespace Go.Proofs.YthnhbcohfoodlaaGreatDoor
open Go.RowKit
theorem yV {L : List Int} {f j : Nat} (h : pk L (aG L j) ≠ 35) : ec L (f + 1) j = aG L j := by rw [ec, if_neg h]
theorem Bx {L : List Int} {f j : Nat} (h : pk L (aG L j) = 35) : ec L (f + 1) j = ec L f (aq jx L (aG L j)) := by rw [ec, if_pos h]
theorem uU (r : Int) (w : World) :
    Calls Tryz.prog 178 #[.int .i32 r] w fun e w' => e = .returned (.bool (eN r)) ∧ w' = w := by
 go_enter Tryz.func178, Tryz.ntmps178;go_wp2;(all_goals go_ret);(all_goals refine ⟨cw ?_, rfl⟩);(all_goals (rw [Bool.eq_iff_iff]; simp [eN]; try omega))
theorem iu (w : World) (C : Nat) (A : Option Addr) (n c : Nat) (L : List Int) (i : Nat) (h : au w C A n c L i) :
    Calls Tryz.prog 56 #[.pointer (some ⟨C, 0, none⟩)] w fun e w' => e = .returned (.tuple #[]) ∧ au w' C A n c L (aj L i) ∧ aF w C w' := by
 have hs := h.size;have hl := h.len;have HC := Lib.hid h;clear h;go_enter Tryz.func56, Tryz.ntmps56;go_wp2_with fail;go_loopw [2] (fun _ wr => ∃ f j : Nat, j ≤ n ∧ n + 1 ≤ f + j ∧ aj L i = ec L f j ∧ au wr C A n c L j ∧ aF w C wr) (fun _ wr => n - (match wr.cell? ⟨C, 1, none⟩ with | some (.int _ j) => j.toNat | _ => 0));(case atStart => exact ⟨L.length + 1, i, HC.out.le, by omega, rfl, HC.out, aF.refl _ _⟩);obtain ⟨f0, j, hj, hf, hsp, hc, hb⟩ := hrel;obtain ⟨f, rfl⟩ : ∃ f, f0 = f + 1 := ⟨f0 - 1, by omega⟩;have HJ := Lib.hid hc;have HB := Lib.hid hb;have pW := Lib.hid hsp;have gT := Lib.hid (hc.cX.cell 1);obtain ⟨k, hk⟩ : ∃ k, aG L j = k := ⟨_, rfl⟩;have HK := Lib.hid hk;have yM : j ≤ k := (by rw [← hk]; exact cL L j);have fR := Lib.hid (fun (W : World) (m : Nat) (h : au W C A n c L m) => cy W C A n c L m h);clear hc hb hsp;go_wp2_with fail;refine (gK wr C A n c L j HJ.out).mono ?_;rintro e w1 ⟨rfl, dh, aT⟩;rw [hk] at dh;have eH := Lib.hid dh;have b8 := Lib.hid (HB.out.trans aT);clear dh aT hk;go_wp2_with fail;refine (fR.out _ k eH.out).mono ?_;rintro e w2 ⟨rfl, dQ, aU⟩;have fV := Lib.hid dQ;have cS := Lib.hid (b8.out.trans aU);clear dQ aU;by_cases kZ : pk L k = 35
 ·have hlt : k < L.length := aS (by omega);have fU := Lib.hid (show aj L i = ec L f (aq jx L k) by rw [pW.out, Bx (by rw [HK.out]; exact kZ), HK.out]);have JM := Lib.hid (show k + 1 ≤ aq jx L k by rw [bD hlt (by rw [kZ]; rfl)]; exact ei _ _ _);have QH := Lib.hid (show aq jx L k ≤ n by rw [← hl]; exact (dA (Nat.le_of_lt hlt)).2);obtain ⟨m0, hm0⟩ : ∃ m0, aq jx L k = m0 := ⟨_, rfl⟩;rw [hm0] at fU JM QH;have HM := Lib.hid hm0;rw [kZ];clear hm0 kZ;go_wp2_with fail;go_loopw [11] (fun _ wy => ∃ m : Nat, k ≤ m ∧ m ≤ n ∧ m0 = aq jx L m ∧ au wy C A n c L m ∧ aF w C wy) (fun _ wy => n - (match wy.cell? ⟨C, 1, none⟩ with | some (.int _ j) => j.toNat | _ => 0));(case atStart => exact ⟨k, Nat.le_refl _, by omega, HM.out.symm, fV.out, cS.out⟩);obtain ⟨m, hkm, hmn, hrun, JQ, NF⟩ := hrel;have E9 := Lib.hid JQ;have Io := Lib.hid NF;have CS := Lib.hid hrun;have FW := Lib.hid (JQ.cX.cell 1);clear JQ NF hrun;cases hrem : jx (pk L m) with
  | true =>
   have IW : m < L.length := aS (fun e => by rw [e] at hrem; exact absurd hrem (by decide));have Cj := Lib.hid (CS.out.trans (bD IW hrem));have h0 : 0 ≤ pk L m ∧ pk L m ≠ 10 := (by simpa [jx] using hrem);have hg0 : decide ((0 : Int) ≤ pk L m) = true := decide_eq_true h0.1;have hg1 : (pk L m != 10) = true := (by simp; exact h0.2);have Ro : IntKind.i64.wrap ((m : Int) + 1) = (m : Int) + 1 := wrap_small _ (by omega) (by omega);clear hrem h0;go_wp2_with fail;refine (fR.out _ m E9.out).mono ?_;rintro e w3 ⟨rfl, eC, bN⟩;have eL := Lib.hid eC;have bV := Lib.hid (Io.out.trans bN);clear eC bN;go_wp2_with fail;refine (fR.out _ m eL.out).mono ?_;rintro e w4 ⟨rfl, gB, eR⟩;have kL := Lib.hid gB;have cG := Lib.hid (bV.out.trans eR);clear gB eR;obtain ⟨d1, d2, d3, d4⟩ := kL.out.step (by omega);have tv := Lib.hid d3;have dM := Lib.hid (cG.out.trans d4);clear d3 d4;go_wp2_with fail;refine ⟨⟨m + 1, by omega, by omega, Cj.out, tv.out, dM.out⟩, ?_⟩;have e1 : (w4.setCell ⟨C, 1, none⟩ (.int .i64 ((m : Int) + 1))).cell? ⟨C, 1, none⟩ = some (.int .i64 ((m + 1 : Nat) : Int)) := tv.out.cX.cell 1;have e2 : wr.cell? ⟨C, 1, none⟩ = some (.int .i64 (m : Int)) := FW.out;rw [e1, e2];simp only [Int.toNat_natCast];omega
  | false =>
   obtain rfl : m0 = m := CS.out.trans (bw (fun _ => hrem));have s9 : pk L m0 < 0 ∨ (0 ≤ pk L m0 ∧ pk L m0 = 10) := by
    simp [jx] at hrem;by_cases h : pk L m0 < 0;exact .inl h;exact .inr ⟨by omega, hrem (by omega)⟩
   have hge := JM.out;clear hrem CS;rcases s9 with h0 | ⟨_, h0⟩
   ·go_wp2_with fail;refine (fR.out _ m0 E9.out).mono ?_;rintro e w3 ⟨rfl, eC, bN⟩;have eL := Lib.hid eC;have bV := Lib.hid (Io.out.trans bN);clear eC bN;go_wp2_with fail;refine ⟨⟨f, m0, hmn, by omega, fU.out, eL.out, bV.out⟩, ?_⟩;rw [eL.out.cX.cell 1, gT.out];simp only [Int.toNat_natCast, List.getElem?_toArray, List.getElem?_cons_succ, List.getElem?_cons_zero];omega
   go_wp2_with fail;refine (cy _ C A n c L m0 E9.out).mono ?_;rintro e w3 ⟨rfl, eC, bN⟩;rw [h0];have eL := Lib.hid eC;have bV := Lib.hid (Io.out.trans bN);clear eC bN;go_wp2_with fail;refine (cy _ C A n c L m0 eL.out).mono ?_;rintro e w4 ⟨rfl, gB, eR⟩;rw [h0];have kL := Lib.hid gB;have cG := Lib.hid (bV.out.trans eR);clear gB eR;go_wp2_with fail;refine ⟨⟨f, m0, hmn, by omega, fU.out, kL.out, cG.out⟩, ?_⟩;rw [kL.out.cX.cell 1, gT.out];simp only [Int.toNat_natCast, List.getElem?_toArray, List.getElem?_cons_succ, List.getElem?_cons_zero];omega
 have hO := Lib.hid (show aj L i = k by rw [pW.out, yV (by rw [HK.out]; exact kZ), HK.out]);have hq : (pk L k != 35) = true := (by simp; exact kZ);clear kZ;go_wp2_with fail;(try simp only [Exit.inBlock, Exit.then]);refine bodyPost_ret (results_none rfl _ _ _) rfl ?_;rw [hO.out];exact ⟨rfl, fV.out, cS.out⟩
def Es {α : Type} (V : α → Value) (w : World) (C : Nat) (A : Option Addr) (n c : Nat) (L : List Int) (r : fH α) (e : Ending) (w' : World) : Prop :=
  match r with
  | .ok (d, j) => e = .returned (V d) ∧ au w' C A n c L j ∧ aF w C w'
  | .error (x, p) => e = aX x p ∧ aF w C w'
theorem Ds (w : World) (C : Nat) (A : Option Addr) (n c : Nat) (L : List Int) (i : Nat) (h : au w C A n c L i) :
    Calls Tryz.prog 101 #[.pointer (some ⟨C, 0, none⟩)] w (Es (Value.int .i64) w C A n c L (cl L i)) := by
 have hs := h.size;have hl := h.len;have hle := h.le;have HC := Lib.hid h;have fR := Lib.hid (fun (W : World) (m : Nat) (h : au W C A n c L m) => cy W C A n c L m h);have zV := Lib.hid (fun (W : World) (h : au W C A n c L i) => ke W C A n c L i 1 h (by decide));have hw1 : IntKind.i64.wrap ((i : Int) + 1) = (i : Int) + 1 := wrap_small _ (by omega) (by omega);have yQ : IntKind.i64.wrap ((i : Int) + 2) = (i : Int) + 2 := wrap_small _ (by omega) (by omega);clear h;obtain ⟨R, hR⟩ : ∃ R, cl L i = R := ⟨_, rfl⟩;rw [hR];have iM := Lib.hid hR;clear hR;by_cases nU : pk L i = 62
 ·have fX := Lib.hid (show R = .ok (1, i + 1) by rw [← iM.out]; unfold cl; rw [if_pos nU]);have hlt : i < L.length := aS (by omega);go_enter Tryz.func101, Tryz.ntmps101;go_wp2_with fail;refine (fR.out _ i HC.out).mono ?_;rintro e w1 ⟨rfl, dh, aT⟩;rw [nU];have eH := Lib.hid dh;have b8 := Lib.hid aT;clear dh aT nU;obtain ⟨d1, d2, d3, d4⟩ := eH.out.step (by omega);have tv := Lib.hid d3;have dM := Lib.hid (b8.out.trans d4);clear d3 d4;go_wp2_with fail;go_ret;rw [fX.out];exact ⟨rfl, tv.out, dM.out⟩
 have Si : (pk L i == 62) = false := (by rw [beq_eq_false_iff_ne]; exact nU);by_cases o9 : pk L i = 60
 ·have hlt : i < L.length := aS (by omega);by_cases h2 : pk L (i + 1) = 62
  ·have fX := Lib.hid (show R = .ok (3, i + 2) by rw [← iM.out]; unfold cl; rw [if_neg nU, if_pos ⟨o9, h2⟩]);have nO : i + 1 < L.length := aS (by omega);go_enter Tryz.func101, Tryz.ntmps101;go_wp2_with fail;refine (fR.out _ i HC.out).mono ?_;rintro e w1 ⟨rfl, dh, aT⟩;have eH := Lib.hid dh;have b8 := Lib.hid aT;clear dh aT;go_wp2_with fail;refine (fR.out _ i eH.out).mono ?_;rintro e w2 ⟨rfl, dQ, aU⟩;rw [o9];have fV := Lib.hid dQ;have cS := Lib.hid (b8.out.trans aU);clear dQ aU;go_wp2_with fail;refine (zV.out _ fV.out).mono ?_;rintro e w3 ⟨rfl, eC, bN⟩;rw [h2];have eL := Lib.hid eC;have bV := Lib.hid (cS.out.trans bN);clear eC bN;have d1 := eL.out.cX.cell 1;have d2 := eL.out.cX.frozen 1;have hm := eL.out.move (j := i + 2) (by omega);rw [show (((i + 2 : Nat)) : Int) = (i : Int) + 2 by omega] at hm;have tv := Lib.hid hm;have dM := Lib.hid (bV.out.trans (aF.set w3 C 1 (.int .i64 ((i : Int) + 2))));clear hm;go_wp2_with fail;go_ret;rw [fX.out];exact ⟨rfl, tv.out, dM.out⟩
  have q2 : (pk L (i + 1) == 62) = false := (by rw [beq_eq_false_iff_ne]; exact h2);have fX := Lib.hid (show R = .ok (2, i + 1) by rw [← iM.out]; unfold cl; rw [if_neg nU, if_neg (fun h => h2 h.2)]; unfold aH; rw [if_pos o9]);have um := Lib.hid (fun (W : World) (h : au W C A n c L i) => show Calls Tryz.prog 59 #[.pointer (some ⟨C, 0, none⟩), .int .i32 60] W fun e w' => e = .returned (.tuple #[]) ∧ au w' C A n c L (i + 1) ∧ aF W C w' by have := eA W C A n c L i 60 h (by decide); rwa [show aH L i 60 = .ok (i + 1) by unfold aH; rw [if_pos o9]] at this);go_enter Tryz.func101, Tryz.ntmps101;go_wp2_with fail;refine (fR.out _ i HC.out).mono ?_;rintro e w1 ⟨rfl, dh, aT⟩;have eH := Lib.hid dh;have b8 := Lib.hid aT;clear dh aT;go_wp2_with fail;refine (fR.out _ i eH.out).mono ?_;rintro e w2 ⟨rfl, dQ, aU⟩;rw [o9];have fV := Lib.hid dQ;have cS := Lib.hid (b8.out.trans aU);clear dQ aU;go_wp2_with fail;refine (zV.out _ fV.out).mono ?_;rintro e w3 ⟨rfl, eC, bN⟩;have eL := Lib.hid eC;have bV := Lib.hid (cS.out.trans bN);clear eC bN;go_wp2_with fail;refine (um.out _ eL.out).mono ?_;rintro e w4 ⟨rfl, gB, eR⟩;have kL := Lib.hid gB;have cG := Lib.hid (bV.out.trans eR);clear gB eR;go_wp2_with fail;go_ret;rw [fX.out];exact ⟨rfl, kL.out, cG.out⟩
 have O6 : (pk L i == 60) = false := (by rw [beq_eq_false_iff_ne]; exact o9);have fX := Lib.hid (show R = .error (2, i) by rw [← iM.out]; unfold cl; rw [if_neg nU, if_neg (fun h => o9 h.1)]; unfold aH; rw [if_neg o9]);have um := Lib.hid (fun (W : World) (h : au W C A n c L i) => show Calls Tryz.prog 59 #[.pointer (some ⟨C, 0, none⟩), .int .i32 60] W fun e w' => e = aX 2 i ∧ aF W C w' by have := eA W C A n c L i 60 h (by decide); rwa [show aH L i 60 = .error (2, i) by unfold aH; rw [if_neg o9]] at this);go_enter Tryz.func101, Tryz.ntmps101;go_wp2_with fail;refine (fR.out _ i HC.out).mono ?_;rintro e w1 ⟨rfl, dh, aT⟩;have eH := Lib.hid dh;have b8 := Lib.hid aT;clear dh aT;go_wp2_with fail;refine (fR.out _ i eH.out).mono ?_;rintro e w2 ⟨rfl, dQ, aU⟩;have fV := Lib.hid dQ;have cS := Lib.hid (b8.out.trans aU);clear dQ aU;go_wp2_with fail;refine (um.out _ fV.out).mono ?_;rintro e w4 ⟨he, eR⟩;unfold aX at he;subst he;have cG := Lib.hid (cS.out.trans eR);clear eR;go_wp2_with fail;rw [fX.out];exact ⟨rfl, rfl, cG.out⟩
def JC (r : Int) : Bool := eN r || oD r
theorem zY {L : List Int} {i : Nat} (h : eN (pk L i) = false) : aI L i = i := by unfold aI; rw [h]; rfl
theorem xx {L : List Int} {i : Nat} (h : eN (pk L i) = true) : aI L i = aq JC L (i + 1) := by
 have hlt : i < L.length := aS (fun e => by rw [e] at h; exact absurd h (by decide));unfold aI;rw [if_pos h];exact bD (p := JC) hlt (by unfold JC; rw [h]; rfl)
def Ck (L : List Int) (i j : Nat) : Prop := j = i ∨ (i < j ∧ aI L i = aq JC L j)
theorem Ck.next {L : List Int} {i j : Nat} (h : Ck L i j) (hj : eN (pk L j) = true ∨ (i < j ∧ oD (pk L j) = true)) : Ck L i (j + 1) := by
 have hl : JC (pk L j) = true := by
  unfold JC;rcases hj with h | h
  ·rw [h]; rfl
  rw [h.2, Bool.or_true]
 have hlt : j < L.length := aS (fun e => by rw [e] at hl; exact absurd hl (by decide));rcases h with rfl | ⟨h1, h2⟩
 ·rcases hj with h | h;exact .inr ⟨by omega, xx h⟩;omega
 exact .inr ⟨by omega, h2.trans (bD hlt hl)⟩
theorem Ck.done {L : List Int} {i j : Nat} (h : Ck L i j) (h1 : eN (pk L j) = false) (h2 : i < j → oD (pk L j) = false) : aI L i = j := by
 rcases h with rfl | ⟨h3, h4⟩;exact zY h1;rw [h4];exact bw (fun _ => by unfold JC; rw [h1, h2 h3]; rfl)
theorem oE (w : World) (C : Nat) (A : Option Addr) (n c : Nat) (L : List Int) (i : Nat) (h : au w C A n c L i) (h0 : 0 < n) :
    Calls Tryz.prog 95 #[.pointer (some ⟨C, 0, none⟩)] w fun e w' => e = .returned (.string (cI L i)) ∧ au w' C A n c L (aI L i) ∧ aF w C w' := by
 have hs := h.size;have hl := h.len;have hi := h.le;obtain ⟨b, off, rfl, _, _⟩ := h.at h0;have HC := Lib.hid h;have fR := Lib.hid (fun (W : World) (m : Nat) (h : au W C (some ⟨b, off, none⟩) n c L m) => cy W C (some ⟨b, off, none⟩) n c L m h);have c1 := h.cX.cell 1;clear h;go_enter Tryz.func95, Tryz.ntmps95;go_upto_block 0 with (go_at_call 57; refine (fR.out _ i HC.out).mono ?_; rintro e w1 ⟨rfl, dh, aT⟩);have eH := Lib.hid dh;have b8 := Lib.hid aT;clear dh aT c1;go_cut [3] (fun v wx => v = .int .i64 (i : Int) ∧ au wx C (some ⟨b, off, none⟩) n c L (aI L i) ∧ aF w C wx);case first =>
  go_wp2_with fail;go_loopw [4] (fun v wr => ∃ j : Nat, i ≤ j ∧ j ≤ n ∧ v = .int .i32 (pk L j) ∧ Ck L i j ∧ au wr C (some ⟨b, off, none⟩) n c L j ∧ aF w C wr) (fun _ wr => n - (match wr.cell? ⟨C, 1, none⟩ with | some (.int _ j) => j.toNat | _ => 0));(case atStart => exact ⟨i, Nat.le_refl _, hi, rfl, .inl rfl, eH.out, b8.out⟩);obtain ⟨j, hij, hjn, rfl, N8, lT, uM⟩ := hrel;have HJ := Lib.hid lT;have HB := Lib.hid uM;have Bg := Lib.hid N8;have gT := Lib.hid (lT.cX.cell 1);have k1 := lT.cX.cell 1;clear lT uM N8;have rE := Lib.hid (fun h1 h2 => Bg.out.done h1 h2);have AW := Lib.hid (fun hj => Bg.out.next hj);have pN := Lib.hid (fun (W : World) (h : au W C (some ⟨b, off, none⟩) n c L (j + 1)) => fR.out W (j + 1) h);obtain ⟨x, hx⟩ : ∃ x, pk L j = x := ⟨_, rfl⟩;have hjl : 0 ≤ x → j < n := fun h => (by rw [← hl]; exact aS (by rw [hx]; omega));rw [hx] at rE AW;rw [hx];have Ki : IntKind.i64.wrap ((j : Int) + 1) = (j : Int) + 1 := wrap_small _ (by omega) (by omega);clear hx;have uw : (eN x = true ∧ ((97 ≤ x ∧ x ≤ 122) ∨ x = 95)) ∨ (eN x = false ∧ i < j ∧ oD x = true ∧ 48 ≤ x ∧ x ≤ 57) ∨ (eN x = false ∧ (i < j → oD x = false) ∧ (x < 48 ∨ (48 ≤ x ∧ x ≤ 57 ∧ j = i) ∨ (57 < x ∧ x < 95) ∨ x = 96 ∨ 122 < x)) := by
   by_cases h1 : eN x = true;exact .inl ⟨h1, by simpa [eN] using h1⟩;rw [Bool.not_eq_true] at h1;have h2 : ¬ ((97 ≤ x ∧ x ≤ 122) ∨ x = 95) := (by simpa [eN] using h1);right;by_cases h3 : i < j ∧ oD x = true;exact .inl ⟨h1, h3.1, h3.2, by simpa [oD] using h3.2⟩;right;refine ⟨h1, fun h4 => by rw [Bool.eq_false_iff]; exact fun h5 => h3 ⟨h4, h5⟩, ?_⟩;by_cases h4 : 48 ≤ x ∧ x ≤ 57
   ·have : ¬ i < j := fun h5 => h3 ⟨h5, by simp [oD, h4]⟩;omega
   omega
  rcases uw with ⟨h1, hr⟩ | ⟨h1, hlt, h2, hr⟩ | ⟨h1, h2, hr⟩
  ·have HN := Lib.hid (AW.out (.inl h1));have Da : j < n := hjl (by omega);obtain ⟨d1, d2, d3, d4⟩ := HJ.out.step Da;have tv := Lib.hid d3;have dM := Lib.hid (HB.out.trans d4);clear d3 d4;rcases hr with ⟨r1, r2⟩ | r1
   all_goals
     go_wp2_with fail
     refine (pN.out _ tv.out).mono ?_
     rintro e w5 ⟨rfl, eV, cr⟩
     have kn := Lib.hid eV
     have fu := Lib.hid (dM.out.trans cr)
     clear eV cr
     go_wp2_with fail
     refine ⟨⟨j + 1, by omega, by omega, rfl, HN.out, kn.out, fu.out⟩, ?_⟩
     have e1 : w5.cell? ⟨C, 1, none⟩ = some (.int .i64 ((j + 1 : Nat) : Int)) := kn.out.cX.cell 1
     have e2 : wr.cell? ⟨C, 1, none⟩ = some (.int .i64 (j : Int)) := gT.out
     rw [e1, e2]
     simp only [Int.toNat_natCast]
     omega
  ·have HN := Lib.hid (AW.out (.inr ⟨hlt, h2⟩));have Da : j < n := hjl (by omega);obtain ⟨d1, d2, d3, d4⟩ := HJ.out.step Da;have tv := Lib.hid d3;have dM := Lib.hid (HB.out.trans d4);have hgt : decide ((i : Int) < (j : Int)) = true := decide_eq_true (by omega);clear d3 d4;obtain ⟨r1, r2⟩ := hr;go_wp2_with fail;refine (pN.out _ tv.out).mono ?_;rintro e w5 ⟨rfl, eV, cr⟩;have kn := Lib.hid eV;have fu := Lib.hid (dM.out.trans cr);clear eV cr;go_wp2_with fail;refine ⟨⟨j + 1, by omega, by omega, rfl, HN.out, kn.out, fu.out⟩, ?_⟩;have e1 : w5.cell? ⟨C, 1, none⟩ = some (.int .i64 ((j + 1 : Nat) : Int)) := kn.out.cX.cell 1;have e2 : wr.cell? ⟨C, 1, none⟩ = some (.int .i64 (j : Int)) := gT.out;rw [e1, e2];simp only [Int.toNat_natCast];omega
  have HE := Lib.hid (rE.out h1 h2);clear rE AW Bg h1 h2;rcases hr with r1 | ⟨r1, r2, r3⟩ | ⟨r1, r2⟩ | r1 | r1
  all_goals
    have Vd : (x == 95) = false := by rw [beq_eq_false_iff_ne]; omega
    by_cases hgt : (i : Int) < (j : Int)
    all_goals first
    | (exfalso; omega)
    | (go_wp2_with fail
       go_meet
       rw [HE.out]
       exact ⟨rfl, HJ.out, HB.out⟩)
 obtain ⟨rfl, vZ, hbc⟩ := hcut;have HT := Lib.hid (show cI L i = runesBytes (ay L i (aI L i)) from rfl);have Sh : i ≤ aI L i := by
  unfold aI;split;exact ei _ _ _;exact Nat.le_refl _
 obtain ⟨r, hr⟩ : ∃ r, aI L i = r := ⟨_, rfl⟩;rw [hr] at vZ HT Sh;have mR := Lib.hid hr;clear hr;have LO := Lib.hid vZ;have Uj := Lib.hid hbc;have T8 := vZ.le;have d0 := vZ.cX.cell 0;have d1 := vZ.cX.cell 1;have kr := sO (vZ.drewN 1) Sh T8;have mT : (i : Int) ≤ (r : Int) := (by omega);have hk2 : (r : Int) ≤ (c : Int) := (by have := vZ.cap; omega);have G2 : (0 : Int) ≤ (i : Int) := (by omega);clear vZ hbc eH b8 HC;generalize runesBytes (ay L i r) = T at *;go_upto_region 6 with fail;refine aD (S := (fun w' => w'.cell? ⟨C, 0, none⟩ = some (.slice (some ⟨b, off, none⟩) n c) ∧ w'.cell? ⟨C, 1, none⟩ = some (.int .i64 r) ∧ (convert 61 9 (.slice (if c = i then some ⟨b, off, none⟩ else some ⟨b, off + i, none⟩) (r - i) (c - i))).run Tryz.prog w' = .ok (.string T) w')) [4, 10, 12] (by kernel_rfl) ⟨d0, d1, kr⟩ (fun bf => ?_);refine aa (i := 0) (oi := ⟨some 54, _, _, _, _, _⟩) (v := ?_) rfl (by kernel_rfl) (by kernel_rfl) (by kernel_rfl) (fun _ _ _ h => h) (Or.inl ⟨by rfl, ?_⟩) ?_;rotate_left 1
 ·intro wq _;go_simp;(try with_reducible rfl)
 (try simp only [Act.put, List.setIfInBounds_toArray, List.set_cons_zero, List.set_cons_succ]);refine aa (i := 1) (oi := ⟨some 55, _, _, _, _, _⟩) (v := ?_) rfl (by kernel_rfl) (by kernel_rfl) (by kernel_rfl) (fun _ _ _ h => h) (Or.inl ⟨by rfl, ?_⟩) ?_;rotate_left 1
 ·intro wq _;go_simp;(try with_reducible rfl)
 (try simp only [Act.put, List.setIfInBounds_toArray, List.set_cons_zero, List.set_cons_succ]);refine aa (i := 2) (oi := ⟨some 56, _, _, _, _, _⟩) (v := ?_) rfl (by kernel_rfl) (by kernel_rfl) (by kernel_rfl) (fun _ _ _ h => h) (Or.inl ⟨by rfl, ?_⟩) ?_;rotate_left 1
 ·intro wq _;go_simp;(try with_reducible rfl)
 (try simp only [Act.put, List.setIfInBounds_toArray, List.set_cons_zero, List.set_cons_succ]);refine aa (i := 3) (oi := ⟨some 57, _, _, _, _, _⟩) (v := ?_) rfl (by kernel_rfl) (by kernel_rfl) (by kernel_rfl) (fun _ _ _ h => h) (Or.inl ⟨by rfl, ?_⟩) ?_;rotate_left 1
 ·intro wq _;go_simp;(try with_reducible rfl)
 (try simp only [Act.put, List.setIfInBounds_toArray, List.set_cons_zero, List.set_cons_succ]);refine ai (i := 4) (oi := ⟨some 58, _, _, _, _, _⟩) (v := ?_) rfl (by kernel_rfl) (by kernel_rfl) (by kernel_rfl) (by kernel_rfl) (by kernel_rfl) (fun _ _ _ h => h) (Or.inl ⟨by rfl, ?_⟩) (by assumption) ?_;rotate_left 1
 ·intro wq bS;(try dsimp only at bS);go_simp;(try with_reducible rfl)
 (try simp only [Act.put, List.setIfInBounds_toArray, List.set_cons_zero, List.set_cons_succ]);refine aa (i := 5) (oi := ⟨some 59, _, _, _, _, _⟩) (v := ?_) rfl (by kernel_rfl) (by kernel_rfl) (by kernel_rfl) (fun _ _ _ h => h) (Or.inl ⟨by rfl, ?_⟩) ?_;rotate_left 1
 ·intro wq _;go_simp;(try with_reducible rfl)
 (try simp only [Act.put, List.setIfInBounds_toArray, List.set_cons_zero, List.set_cons_succ]);refine aa (i := 6) (oi := ⟨some 60, _, _, _, _, _⟩) (v := ?_) rfl (by kernel_rfl) (by kernel_rfl) (by kernel_rfl) (fun _ _ _ h => h) (Or.inl ⟨by rfl, ?_⟩) ?_;rotate_left 1
 ·intro wq _;go_simp;(try with_reducible rfl)
 (try simp only [Act.put, List.setIfInBounds_toArray, List.set_cons_zero, List.set_cons_succ]);refine aa (i := 7) (oi := ⟨some 61, _, _, _, _, _⟩) (v := ?_) rfl (by kernel_rfl) (by kernel_rfl) (by kernel_rfl) (fun _ _ _ h => h) (Or.inl ⟨by rfl, ?_⟩) ?_;rotate_left 1
 ·intro wq _;go_simp;(try with_reducible rfl)
 (try simp only [Act.put, List.setIfInBounds_toArray, List.set_cons_zero, List.set_cons_succ]);refine aa (i := 8) (oi := ⟨some 62, _, _, _, _, _⟩) (v := ?_) rfl (by kernel_rfl) (by kernel_rfl) (by kernel_rfl) (fun _ _ _ h => h) (Or.inl ⟨by rfl, ?_⟩) ?_;rotate_left 1
 ·intro wq _;go_simp;(try with_reducible rfl)
 (try simp only [Act.put, List.setIfInBounds_toArray, List.set_cons_zero, List.set_cons_succ]);refine aa (i := 9) (oi := ⟨some 63, _, _, _, _, _⟩) (v := ?_) rfl (by kernel_rfl) (by kernel_rfl) (by kernel_rfl) (fun _ _ _ h => h) (Or.inl ⟨by rfl, ?_⟩) ?_;rotate_left 1
 ·intro wq _;go_simp;(try with_reducible rfl)
 (try simp only [Act.put, List.setIfInBounds_toArray, List.set_cons_zero, List.set_cons_succ]);refine ai (i := 10) (oi := ⟨some 64, _, _, _, _, _⟩) (v := ?_) rfl (by kernel_rfl) (by kernel_rfl) (by kernel_rfl) (by kernel_rfl) (by kernel_rfl) (fun _ _ _ h => h) (Or.inl ⟨by rfl, ?_⟩) (by assumption) ?_;rotate_left 1
 ·intro wq bS;(try dsimp only at bS);go_simp;(try with_reducible rfl)
 (try simp only [Act.put, List.setIfInBounds_toArray, List.set_cons_zero, List.set_cons_succ]);refine aa (i := 11) (oi := ⟨some 65, _, _, _, _, _⟩) (v := ?_) rfl (by kernel_rfl) (by kernel_rfl) (by kernel_rfl) (fun _ _ _ h => h) (Or.inl ⟨by rfl, ?_⟩) ?_;rotate_left 1
 ·intro wq _;go_simp;(try with_reducible rfl)
 (try simp only [Act.put, List.setIfInBounds_toArray, List.set_cons_zero, List.set_cons_succ]);refine ai (i := 12) (oi := ⟨some 66, _, _, _, _, _⟩) (v := ?_) rfl (by kernel_rfl) (by kernel_rfl) (by kernel_rfl) (by kernel_rfl) (by kernel_rfl) (fun _ _ _ h => h) (Or.inl ⟨by rfl, ?_⟩) (by assumption) ?_;rotate_left 1
 ·intro wq bS;(try dsimp only at bS);go_simp;(try with_reducible rfl)
 (try simp only [Act.put, List.setIfInBounds_toArray, List.set_cons_zero, List.set_cons_succ]);refine aa (i := 13) (oi := ⟨some 2, _, _, _, _, _⟩) (v := ?_) rfl (by kernel_rfl) (by kernel_rfl) (by kernel_rfl) (fun _ _ _ h => h) (Or.inl ⟨by rfl, ?_⟩) ?_;rotate_left 1
 ·intro wq _;go_simp;(try with_reducible rfl)
 (try simp only [Act.put, List.setIfInBounds_toArray, List.set_cons_zero, List.set_cons_succ]);refine aN (by kernel_rfl) ?_ _;generalize (if c = i then some ({ block := b, off := off } : Addr) else some { block := b, off := off + i }) = Z;go_simp;go_wp2_with fail;go_ret;rw [HT.out, mR.out];exact ⟨rfl, LO.out.drewN 1, Uj.out.trans (aF.drewN wc C 1)⟩
theorem AH (w : World) (C : Nat) (A : Option Addr) (n c : Nat) (L : List Int) (i : Nat) (h : au w C A n c L i) (h0 : 0 < n) :
    Calls Tryz.prog 99 #[.pointer (some ⟨C, 0, none⟩)] w (Es Value.string w C A n c L (cQ L i)) := by
 have HW := Lib.hid (oE w C A n c L i h h0);have c1 := h.cX.cell 1;have HN := Lib.hid (show cQ L i = if cm (cI L i) = true then .ok (cI L i, aI L i) else .error (7, i) from rfl);obtain ⟨R, hR⟩ : ∃ R, cQ L i = R := ⟨_, rfl⟩;rw [hR];rw [hR] at HN;clear h hR;generalize cI L i = T at *;generalize aI L i = r at *;have yY := Lib.hid (fun (W : World) => fW T W);cases hnm : cm T with
 | true =>
  rw [hnm] at HN yY;go_enter Tryz.func99, Tryz.ntmps99;go_wp2_with fail;refine HW.out.mono ?_;rintro e w1 ⟨rfl, dh, aT⟩;have eH := Lib.hid dh;have b8 := Lib.hid aT;clear dh aT;go_wp2_with fail;refine (yY.out _).mono ?_;rintro e w2 ⟨rfl, rfl⟩;go_wp2_with fail;go_ret;rw [HN.out];exact ⟨rfl, eH.out, b8.out⟩
 | false =>
  rw [hnm] at HN yY;go_enter Tryz.func99, Tryz.ntmps99;go_wp2_with fail;refine HW.out.mono ?_;rintro e w1 ⟨rfl, dh, aT⟩;have eH := Lib.hid dh;have b8 := Lib.hid aT;clear dh aT;go_wp2_with fail;refine (yY.out _).mono ?_;rintro e w2 ⟨rfl, rfl⟩;go_wp2_with fail;refine (bW 7 i _).mono ?_;rintro e w3 ⟨rfl, rfl⟩;go_wp2_with fail;rw [HN.out];exact ⟨rfl, rfl, b8.out⟩
def Ek (L : List Int) (i : Nat) : Bool := decide (pk L (aj L (aI L (i + 1))) = 61)
theorem pL (w : World) (C : Nat) (A : Option Addr) (n c : Nat) (L : List Int) (i : Nat) (h : au w C A n c L i) (hi : i < n) :
    Calls Tryz.prog 98 #[.pointer (some ⟨C, 0, none⟩)] w fun e w' => e = .returned (.bool (Ek L i)) ∧ Below w.heap.size w w' := by
 have hs := h.size;have c0 := h.cX.cell 0;have c1 := h.cX.cell 1;have hw1 : IntKind.i64.wrap ((i : Int) + 1) = (i : Int) + 1 := wrap_small _ (by omega) (by omega)
 have HN := Lib.hid (show au (w.alloc (.cells #[.slice A n c, .int .i64 ((i : Int) + 1)] 92)) w.heap.size A n c L (i + 1) from
   ⟨⟨_, by rw [show (((i + 1 : Nat)) : Int) = (i : Int) + 1 by omega]; exact aM.new _ _ _⟩, (h.row.lift (X' := fun _ => True) (fun _ _ => trivial)).keep (aC.alloc _ (fun b _ hl => Nat.ne_of_lt hl)), h.size, hi, h.cap⟩)
 have HB := Lib.hid (show Below w.heap.size w (w.alloc (.cells #[.slice A n c, .int .i64 ((i : Int) + 1)] 92)) from (Below.refl _ _).alloc (Nat.le_refl _) _);have HV := Lib.hid (show Ek L i = decide (pk L (aj L (aI L (i + 1))) = 61) from rfl);clear h;go_enter Tryz.func98, Tryz.ntmps98;go_wp2_with fail;refine (oE _ w.heap.size A n c L (i + 1) HN.out (by omega)).mono ?_;rintro e w1 ⟨rfl, dh, aT⟩;have eH := Lib.hid dh;have b8 := Lib.hid (HB.out.trans (aT.to HB.out.size (Nat.le_refl _)));clear dh aT;go_wp2_with fail;refine (iu _ w.heap.size A n c L _ eH.out).mono ?_;rintro e w2 ⟨rfl, dQ, aU⟩;have fV := Lib.hid dQ;have cS := Lib.hid (b8.out.trans (aU.to b8.out.size (Nat.le_refl _)));clear dQ aU;go_wp2_with fail;refine (cy _ w.heap.size A n c L _ fV.out).mono ?_;rintro e w3 ⟨rfl, eC, bN⟩;have bV := Lib.hid (cS.out.trans (bN.to cS.out.size (Nat.le_refl _)));clear eC bN;go_wp2_with fail;go_ret;rw [HV.out];exact ⟨cw (by first | rfl | (rw [Bool.eq_iff_iff]; simp)), bV.out⟩
end Go.Proofs.YthnhbcohfoodlaaGreatDoor
