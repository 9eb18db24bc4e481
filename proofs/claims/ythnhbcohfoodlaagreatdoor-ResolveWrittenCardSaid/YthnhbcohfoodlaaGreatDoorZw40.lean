/- RdSpace + RdWord + RdName + RdQuoted -/
import Derived.Test.YthnhbcohfoodlaaGreatDoorZw13
import Derived.Test.YthnhbcohfoodlaaGreatDoorZw39
set_option maxHeartbeats 6400000
set_option maxRecDepth 100000
namespace Go.Proofs.YthnhbcohfoodlaaGreatDoor
open Go.RowKit
theorem Dj {L : List Int} {f j : Nat} (h : pk L (aN L j) ≠ 35) : eL L (f + 1) j = aN L j := by rw [eL, if_neg h]
theorem EU {L : List Int} {f j : Nat} (h : pk L (aN L j) = 35) : eL L (f + 1) j = eL L f (aA oS L (aN L j)) := by rw [eL, if_pos h]
theorem xA (r : Int) (w : World) :
    Calls Tryz.prog 178 #[.int .i32 r] w fun e w' => e = .returned (.bool (gQ r)) ∧ w' = w := by
 go_enter Tryz.func178, Tryz.ntmps178;go_wp2;(all_goals go_ret);(all_goals refine ⟨e9 ?_, rfl⟩);(all_goals (rw [Bool.eq_iff_iff]; simp [gQ]; try omega))
theorem i9 (w : World) (C : Nat) (A : Option Addr) (n c : Nat) (L : List Int) (i : Nat) (h : av w C A n c L i) :
    Calls Tryz.prog 56 #[.pointer (some ⟨C, 0, none⟩)] w fun e w' => e = .returned (.tuple #[]) ∧ av w' C A n c L (ai L i) ∧ bK w C w' := by
 have hs := h.size;have hl := h.len;have HC := Lib.hid h;clear h;go_enter Tryz.func56, Tryz.ntmps56;go_wp2_with fail;go_loopw [2] (fun _ wr => ∃ f j : Nat, j ≤ n ∧ n + 1 ≤ f + j ∧ ai L i = eL L f j ∧ av wr C A n c L j ∧ bK w C wr) (fun _ wr => n - (match wr.cell? ⟨C, 1, none⟩ with | some (.int _ j) => j.toNat | _ => 0));(case atStart => exact ⟨L.length + 1, i, HC.out.le, by omega, rfl, HC.out, bK.refl _ _⟩);obtain ⟨f0, j, hj, hf, hsp, hc, hb⟩ := hrel;obtain ⟨f, rfl⟩ : ∃ f, f0 = f + 1 := ⟨f0 - 1, by omega⟩;have HJ := Lib.hid hc;have HB := Lib.hid hb;have qR := Lib.hid hsp;have sn := Lib.hid (hc.ey.cell 1);obtain ⟨k, hk⟩ : ∃ k, aN L j = k := ⟨_, rfl⟩;have HK := Lib.hid hk;have hjk : j ≤ k := (by rw [← hk]; exact ei L j);have fP := Lib.hid (fun (W : World) (m : Nat) (h : av W C A n c L m) => cG W C A n c L m h);clear hc hb hsp;go_wp2_with fail;refine (iq wr C A n c L j HJ.out).mono ?_;rintro e w1 ⟨rfl, fO, bt⟩;rw [hk] at fO;have jo := Lib.hid fO;have cy := Lib.hid (HB.out.trans bt);clear fO bt hk;go_wp2_with fail;refine (fP.out _ k jo.out).mono ?_;rintro e w2 ⟨rfl, jj, bn⟩;have qt := Lib.hid jj;have cE := Lib.hid (cy.out.trans bn);clear jj bn;by_cases q5 : pk L k = 35
 ·have hlt : k < L.length := bA (by omega);have qu := Lib.hid (show ai L i = eL L f (aA oS L k) by rw [qR.out, EU (by rw [HK.out]; exact q5), HK.out]);have SJ := Lib.hid (show k + 1 ≤ aA oS L k by rw [cZ hlt (by rw [q5]; rfl)]; exact eO _ _ _);have HLE := Lib.hid (show aA oS L k ≤ n by rw [← hl]; exact (gP (Nat.le_of_lt hlt)).2);obtain ⟨m0, hm0⟩ : ∃ m0, aA oS L k = m0 := ⟨_, rfl⟩;rw [hm0] at qu SJ HLE;have HM := Lib.hid hm0;rw [q5];clear hm0 q5;go_wp2_with fail;go_loopw [11] (fun _ wy => ∃ m : Nat, k ≤ m ∧ m ≤ n ∧ m0 = aA oS L m ∧ av wy C A n c L m ∧ bK w C wy) (fun _ wy => n - (match wy.cell? ⟨C, 1, none⟩ with | some (.int _ j) => j.toNat | _ => 0));(case atStart => exact ⟨k, Nat.le_refl _, by omega, HM.out.symm, qt.out, cE.out⟩);obtain ⟨m, hkm, hmn, hrun, Ug, Xi⟩ := hrel;have T9 := Lib.hid Ug;have Ts := Lib.hid Xi;have UK := Lib.hid hrun;have MM := Lib.hid (Ug.ey.cell 1);clear Ug Xi hrun;cases qF : oS (pk L m) with
  | true =>
   have Ub : m < L.length := bA (fun e => by rw [e] at qF; exact absurd qF (by decide));have TE := Lib.hid (UK.out.trans (cZ Ub qF));have h0 : 0 ≤ pk L m ∧ pk L m ≠ 10 := (by simpa [oS] using qF);have hg0 : decide ((0 : Int) ≤ pk L m) = true := decide_eq_true h0.1;have hg1 : (pk L m != 10) = true := (by simp; exact h0.2);have hwm : IntKind.i64.wrap ((m : Int) + 1) = (m : Int) + 1 := wrap_small _ (by omega) (by omega);clear qF h0;go_wp2_with fail;refine (fP.out _ m T9.out).mono ?_;rintro e w3 ⟨rfl, kJ, aJ⟩;have o8 := Lib.hid kJ;have dQ := Lib.hid (Ts.out.trans aJ);clear kJ aJ;go_wp2_with fail;refine (fP.out _ m o8.out).mono ?_;rintro e w4 ⟨rfl, ld, hb4⟩;have AY := Lib.hid ld;have iW := Lib.hid (dQ.out.trans hb4);clear ld hb4;obtain ⟨d1, d2, d3, d4⟩ := AY.out.step (by omega);have yQ := Lib.hid d3;have fR := Lib.hid (iW.out.trans d4);clear d3 d4;go_wp2_with fail;refine ⟨⟨m + 1, by omega, by omega, TE.out, yQ.out, fR.out⟩, ?_⟩;have e1 : (w4.setCell ⟨C, 1, none⟩ (.int .i64 ((m : Int) + 1))).cell? ⟨C, 1, none⟩ = some (.int .i64 ((m + 1 : Nat) : Int)) := yQ.out.ey.cell 1;have e2 : wr.cell? ⟨C, 1, none⟩ = some (.int .i64 (m : Int)) := MM.out;rw [e1, e2];simp only [Int.toNat_natCast];omega
  | false =>
   obtain rfl : m0 = m := UK.out.trans (cx (fun _ => qF));have ZR : pk L m0 < 0 ∨ (0 ≤ pk L m0 ∧ pk L m0 = 10) := by
    simp [oS] at qF;by_cases h : pk L m0 < 0;exact .inl h;exact .inr ⟨by omega, qF (by omega)⟩
   have hge := SJ.out;clear qF UK;rcases ZR with h0 | ⟨_, h0⟩
   ·go_wp2_with fail;refine (fP.out _ m0 T9.out).mono ?_;rintro e w3 ⟨rfl, kJ, aJ⟩;have o8 := Lib.hid kJ;have dQ := Lib.hid (Ts.out.trans aJ);clear kJ aJ;go_wp2_with fail;refine ⟨⟨f, m0, hmn, by omega, qu.out, o8.out, dQ.out⟩, ?_⟩;rw [o8.out.ey.cell 1, sn.out];simp only [Int.toNat_natCast, List.getElem?_toArray, List.getElem?_cons_succ, List.getElem?_cons_zero];omega
   go_wp2_with fail;refine (cG _ C A n c L m0 T9.out).mono ?_;rintro e w3 ⟨rfl, kJ, aJ⟩;rw [h0];have o8 := Lib.hid kJ;have dQ := Lib.hid (Ts.out.trans aJ);clear kJ aJ;go_wp2_with fail;refine (cG _ C A n c L m0 o8.out).mono ?_;rintro e w4 ⟨rfl, ld, hb4⟩;rw [h0];have AY := Lib.hid ld;have iW := Lib.hid (dQ.out.trans hb4);clear ld hb4;go_wp2_with fail;refine ⟨⟨f, m0, hmn, by omega, qu.out, AY.out, iW.out⟩, ?_⟩;rw [AY.out.ey.cell 1, sn.out];simp only [Int.toNat_natCast, List.getElem?_toArray, List.getElem?_cons_succ, List.getElem?_cons_zero];omega
 have zH := Lib.hid (show ai L i = k by rw [qR.out, Dj (by rw [HK.out]; exact q5), HK.out]);have hq : (pk L k != 35) = true := (by simp; exact q5);clear q5;go_wp2_with fail;(try simp only [Exit.inBlock, Exit.then]);refine bodyPost_ret (results_none rfl _ _ _) rfl ?_;rw [zH.out];exact ⟨rfl, qt.out, cE.out⟩
def JC {α : Type} (V : α → Value) (w : World) (C : Nat) (A : Option Addr) (n c : Nat) (L : List Int) (r : jz α) (e : Ending) (w' : World) : Prop :=
  match r with
  | .ok (d, j) => e = .returned (V d) ∧ av w' C A n c L j ∧ bK w C w'
  | .error (x, p) => e = aZ x p ∧ bK w C w'
theorem IP (w : World) (C : Nat) (A : Option Addr) (n c : Nat) (L : List Int) (i : Nat) (h : av w C A n c L i) :
    Calls Tryz.prog 101 #[.pointer (some ⟨C, 0, none⟩)] w (JC (Value.int .i64) w C A n c L (dw L i)) := by
 have hs := h.size;have hl := h.len;have hle := h.le;have HC := Lib.hid h;have fP := Lib.hid (fun (W : World) (m : Nat) (h : av W C A n c L m) => cG W C A n c L m h);have GR := Lib.hid (fun (W : World) (h : av W C A n c L i) => lI W C A n c L i 1 h (by decide));have hw1 : IntKind.i64.wrap ((i : Int) + 1) = (i : Int) + 1 := wrap_small _ (by omega) (by omega);have LB : IntKind.i64.wrap ((i : Int) + 2) = (i : Int) + 2 := wrap_small _ (by omega) (by omega);clear h;obtain ⟨R, hR⟩ : ∃ R, dw L i = R := ⟨_, rfl⟩;rw [hR];have gG := Lib.hid hR;clear hR;by_cases Gb : pk L i = 62
 ·have nE := Lib.hid (show R = .ok (1, i + 1) by rw [← gG.out]; unfold dw; rw [if_pos Gb]);have hlt : i < L.length := bA (by omega);go_enter Tryz.func101, Tryz.ntmps101;go_wp2_with fail;refine (fP.out _ i HC.out).mono ?_;rintro e w1 ⟨rfl, fO, bt⟩;rw [Gb];have jo := Lib.hid fO;have cy := Lib.hid bt;clear fO bt Gb;obtain ⟨d1, d2, d3, d4⟩ := jo.out.step (by omega);have yQ := Lib.hid d3;have fR := Lib.hid (cy.out.trans d4);clear d3 d4;go_wp2_with fail;go_ret;rw [nE.out];exact ⟨rfl, yQ.out, fR.out⟩
 have q62 : (pk L i == 62) = false := (by rw [beq_eq_false_iff_ne]; exact Gb);by_cases Eb : pk L i = 60
 ·have hlt : i < L.length := bA (by omega);by_cases h2 : pk L (i + 1) = 62
  ·have nE := Lib.hid (show R = .ok (3, i + 2) by rw [← gG.out]; unfold dw; rw [if_neg Gb, if_pos ⟨Eb, h2⟩]);have AJ : i + 1 < L.length := bA (by omega);go_enter Tryz.func101, Tryz.ntmps101;go_wp2_with fail;refine (fP.out _ i HC.out).mono ?_;rintro e w1 ⟨rfl, fO, bt⟩;have jo := Lib.hid fO;have cy := Lib.hid bt;clear fO bt;go_wp2_with fail;refine (fP.out _ i jo.out).mono ?_;rintro e w2 ⟨rfl, jj, bn⟩;rw [Eb];have qt := Lib.hid jj;have cE := Lib.hid (cy.out.trans bn);clear jj bn;go_wp2_with fail;refine (GR.out _ qt.out).mono ?_;rintro e w3 ⟨rfl, kJ, aJ⟩;rw [h2];have o8 := Lib.hid kJ;have dQ := Lib.hid (cE.out.trans aJ);clear kJ aJ;have d1 := o8.out.ey.cell 1;have d2 := o8.out.ey.frozen 1;have hm := o8.out.move (j := i + 2) (by omega);rw [show (((i + 2 : Nat)) : Int) = (i : Int) + 2 by omega] at hm;have yQ := Lib.hid hm;have fR := Lib.hid (dQ.out.trans (bK.set w3 C 1 (.int .i64 ((i : Int) + 2))));clear hm;go_wp2_with fail;go_ret;rw [nE.out];exact ⟨rfl, yQ.out, fR.out⟩
  have q2 : (pk L (i + 1) == 62) = false := (by rw [beq_eq_false_iff_ne]; exact h2);have nE := Lib.hid (show R = .ok (2, i + 1) by rw [← gG.out]; unfold dw; rw [if_neg Gb, if_neg (fun h => h2 h.2)]; unfold aW; rw [if_pos Eb]);have E0 := Lib.hid (fun (W : World) (h : av W C A n c L i) => show Calls Tryz.prog 59 #[.pointer (some ⟨C, 0, none⟩), .int .i32 60] W fun e w' => e = .returned (.tuple #[]) ∧ av w' C A n c L (i + 1) ∧ bK W C w' by have := fc W C A n c L i 60 h (by decide); rwa [show aW L i 60 = .ok (i + 1) by unfold aW; rw [if_pos Eb]] at this);go_enter Tryz.func101, Tryz.ntmps101;go_wp2_with fail;refine (fP.out _ i HC.out).mono ?_;rintro e w1 ⟨rfl, fO, bt⟩;have jo := Lib.hid fO;have cy := Lib.hid bt;clear fO bt;go_wp2_with fail;refine (fP.out _ i jo.out).mono ?_;rintro e w2 ⟨rfl, jj, bn⟩;rw [Eb];have qt := Lib.hid jj;have cE := Lib.hid (cy.out.trans bn);clear jj bn;go_wp2_with fail;refine (GR.out _ qt.out).mono ?_;rintro e w3 ⟨rfl, kJ, aJ⟩;have o8 := Lib.hid kJ;have dQ := Lib.hid (cE.out.trans aJ);clear kJ aJ;go_wp2_with fail;refine (E0.out _ o8.out).mono ?_;rintro e w4 ⟨rfl, ld, hb4⟩;have AY := Lib.hid ld;have iW := Lib.hid (dQ.out.trans hb4);clear ld hb4;go_wp2_with fail;go_ret;rw [nE.out];exact ⟨rfl, AY.out, iW.out⟩
 have q60 : (pk L i == 60) = false := (by rw [beq_eq_false_iff_ne]; exact Eb);have nE := Lib.hid (show R = .error (2, i) by rw [← gG.out]; unfold dw; rw [if_neg Gb, if_neg (fun h => Eb h.1)]; unfold aW; rw [if_neg Eb]);have E0 := Lib.hid (fun (W : World) (h : av W C A n c L i) => show Calls Tryz.prog 59 #[.pointer (some ⟨C, 0, none⟩), .int .i32 60] W fun e w' => e = aZ 2 i ∧ bK W C w' by have := fc W C A n c L i 60 h (by decide); rwa [show aW L i 60 = .error (2, i) by unfold aW; rw [if_neg Eb]] at this);go_enter Tryz.func101, Tryz.ntmps101;go_wp2_with fail;refine (fP.out _ i HC.out).mono ?_;rintro e w1 ⟨rfl, fO, bt⟩;have jo := Lib.hid fO;have cy := Lib.hid bt;clear fO bt;go_wp2_with fail;refine (fP.out _ i jo.out).mono ?_;rintro e w2 ⟨rfl, jj, bn⟩;have qt := Lib.hid jj;have cE := Lib.hid (cy.out.trans bn);clear jj bn;go_wp2_with fail;refine (E0.out _ qt.out).mono ?_;rintro e w4 ⟨he, hb4⟩;unfold aZ at he;subst he;have iW := Lib.hid (cE.out.trans hb4);clear hb4;go_wp2_with fail;rw [nE.out];exact ⟨rfl, rfl, iW.out⟩
def Na (r : Int) : Bool := gQ r || uR r
theorem Co {L : List Int} {i : Nat} (h : gQ (pk L i) = false) : aV L i = i := by unfold aV; rw [h]; rfl
theorem AL {L : List Int} {i : Nat} (h : gQ (pk L i) = true) : aV L i = aA Na L (i + 1) := by
 have hlt : i < L.length := bA (fun e => by rw [e] at h; exact absurd h (by decide));unfold aV;rw [if_pos h];exact cZ (p := Na) hlt (by unfold Na; rw [h]; rfl)
def EZ (L : List Int) (i j : Nat) : Prop := j = i ∨ (i < j ∧ aV L i = aA Na L j)
theorem EZ.next {L : List Int} {i j : Nat} (h : EZ L i j) (hj : gQ (pk L j) = true ∨ (i < j ∧ uR (pk L j) = true)) : EZ L i (j + 1) := by
 have hl : Na (pk L j) = true := by
  unfold Na;rcases hj with h | h
  ·rw [h]; rfl
  rw [h.2, Bool.or_true]
 have hlt : j < L.length := bA (fun e => by rw [e] at hl; exact absurd hl (by decide));rcases h with rfl | ⟨h1, h2⟩
 ·rcases hj with h | h;exact .inr ⟨by omega, AL h⟩;omega
 exact .inr ⟨by omega, h2.trans (cZ hlt hl)⟩
theorem EZ.done {L : List Int} {i j : Nat} (h : EZ L i j) (h1 : gQ (pk L j) = false) (h2 : i < j → uR (pk L j) = false) : aV L i = j := by
 rcases h with rfl | ⟨h3, h4⟩;exact Co h1;rw [h4];exact cx (fun _ => by unfold Na; rw [h1, h2 h3]; rfl)
theorem pT (w : World) (C : Nat) (A : Option Addr) (n c : Nat) (L : List Int) (i : Nat) (h : av w C A n c L i) (h0 : 0 < n) :
    Calls Tryz.prog 95 #[.pointer (some ⟨C, 0, none⟩)] w fun e w' => e = .returned (.string (fS L i)) ∧ av w' C A n c L (aV L i) ∧ bK w C w' := by
 have hs := h.size;have hl := h.len;have hi := h.le;obtain ⟨b, off, rfl, _, _⟩ := h.at h0;have HC := Lib.hid h;have fP := Lib.hid (fun (W : World) (m : Nat) (h : av W C (some ⟨b, off, none⟩) n c L m) => cG W C (some ⟨b, off, none⟩) n c L m h);have c1 := h.ey.cell 1;clear h;go_enter Tryz.func95, Tryz.ntmps95;go_upto_block 0 with (go_at_call 57; refine (fP.out _ i HC.out).mono ?_; rintro e w1 ⟨rfl, fO, bt⟩);have jo := Lib.hid fO;have cy := Lib.hid bt;clear fO bt c1;go_cut [3] (fun v wx => v = .int .i64 (i : Int) ∧ av wx C (some ⟨b, off, none⟩) n c L (aV L i) ∧ bK w C wx);case first =>
  go_wp2_with fail;go_loopw [4] (fun v wr => ∃ j : Nat, i ≤ j ∧ j ≤ n ∧ v = .int .i32 (pk L j) ∧ EZ L i j ∧ av wr C (some ⟨b, off, none⟩) n c L j ∧ bK w C wr) (fun _ wr => n - (match wr.cell? ⟨C, 1, none⟩ with | some (.int _ j) => j.toNat | _ => 0));(case atStart => exact ⟨i, Nat.le_refl _, hi, rfl, .inl rfl, jo.out, cy.out⟩);obtain ⟨j, hij, hjn, rfl, Tg, rS, Ar⟩ := hrel;have HJ := Lib.hid rS;have HB := Lib.hid Ar;have NF := Lib.hid Tg;have sn := Lib.hid (rS.ey.cell 1);have k1 := rS.ey.cell 1;clear rS Ar Tg;have AK := Lib.hid (fun h1 h2 => NF.out.done h1 h2);have Eo := Lib.hid (fun hj => NF.out.next hj);have qJ := Lib.hid (fun (W : World) (h : av W C (some ⟨b, off, none⟩) n c L (j + 1)) => fP.out W (j + 1) h);obtain ⟨x, hx⟩ : ∃ x, pk L j = x := ⟨_, rfl⟩;have hjl : 0 ≤ x → j < n := fun h => (by rw [← hl]; exact bA (by rw [hx]; omega));rw [hx] at AK Eo;rw [hx];have Z8 : IntKind.i64.wrap ((j : Int) + 1) = (j : Int) + 1 := wrap_small _ (by omega) (by omega);clear hx;have RV : (gQ x = true ∧ ((97 ≤ x ∧ x ≤ 122) ∨ x = 95)) ∨ (gQ x = false ∧ i < j ∧ uR x = true ∧ 48 ≤ x ∧ x ≤ 57) ∨ (gQ x = false ∧ (i < j → uR x = false) ∧ (x < 48 ∨ (48 ≤ x ∧ x ≤ 57 ∧ j = i) ∨ (57 < x ∧ x < 95) ∨ x = 96 ∨ 122 < x)) := by
   by_cases h1 : gQ x = true;exact .inl ⟨h1, by simpa [gQ] using h1⟩;rw [Bool.not_eq_true] at h1;have h2 : ¬ ((97 ≤ x ∧ x ≤ 122) ∨ x = 95) := (by simpa [gQ] using h1);right;by_cases h3 : i < j ∧ uR x = true;exact .inl ⟨h1, h3.1, h3.2, by simpa [uR] using h3.2⟩;right;refine ⟨h1, fun h4 => by rw [Bool.eq_false_iff]; exact fun h5 => h3 ⟨h4, h5⟩, ?_⟩;by_cases h4 : 48 ≤ x ∧ x ≤ 57
   ·have : ¬ i < j := fun h5 => h3 ⟨h5, by simp [uR, h4]⟩;omega
   omega
  rcases RV with ⟨h1, hr⟩ | ⟨h1, hlt, h2, hr⟩ | ⟨h1, h2, hr⟩
  ·have HN := Lib.hid (Eo.out (.inl h1));have Ko : j < n := hjl (by omega);obtain ⟨d1, d2, d3, d4⟩ := HJ.out.step Ko;have yQ := Lib.hid d3;have fR := Lib.hid (HB.out.trans d4);clear d3 d4;rcases hr with ⟨r1, r2⟩ | r1
   all_goals
     go_wp2_with fail
     refine (qJ.out _ yQ.out).mono ?_
     rintro e w5 ⟨rfl, kP, eo⟩
     have tq := Lib.hid kP
     have jM := Lib.hid (fR.out.trans eo)
     clear kP eo
     go_wp2_with fail
     refine ⟨⟨j + 1, by omega, by omega, rfl, HN.out, tq.out, jM.out⟩, ?_⟩
     have e1 : w5.cell? ⟨C, 1, none⟩ = some (.int .i64 ((j + 1 : Nat) : Int)) := tq.out.ey.cell 1
     have e2 : wr.cell? ⟨C, 1, none⟩ = some (.int .i64 (j : Int)) := sn.out
     rw [e1, e2]
     simp only [Int.toNat_natCast]
     omega
  ·have HN := Lib.hid (Eo.out (.inr ⟨hlt, h2⟩));have Ko : j < n := hjl (by omega);obtain ⟨d1, d2, d3, d4⟩ := HJ.out.step Ko;have yQ := Lib.hid d3;have fR := Lib.hid (HB.out.trans d4);have hgt : decide ((i : Int) < (j : Int)) = true := decide_eq_true (by omega);clear d3 d4;obtain ⟨r1, r2⟩ := hr;go_wp2_with fail;refine (qJ.out _ yQ.out).mono ?_;rintro e w5 ⟨rfl, kP, eo⟩;have tq := Lib.hid kP;have jM := Lib.hid (fR.out.trans eo);clear kP eo;go_wp2_with fail;refine ⟨⟨j + 1, by omega, by omega, rfl, HN.out, tq.out, jM.out⟩, ?_⟩;have e1 : w5.cell? ⟨C, 1, none⟩ = some (.int .i64 ((j + 1 : Nat) : Int)) := tq.out.ey.cell 1;have e2 : wr.cell? ⟨C, 1, none⟩ = some (.int .i64 (j : Int)) := sn.out;rw [e1, e2];simp only [Int.toNat_natCast];omega
  have HE := Lib.hid (AK.out h1 h2);clear AK Eo NF h1 h2;rcases hr with r1 | ⟨r1, r2, r3⟩ | ⟨r1, r2⟩ | r1 | r1
  all_goals
    have q95 : (x == 95) = false := by rw [beq_eq_false_iff_ne]; omega
    by_cases hgt : (i : Int) < (j : Int)
    all_goals first
    | (exfalso; omega)
    | (go_wp2_with fail
       go_meet
       rw [HE.out]
       exact ⟨rfl, HJ.out, HB.out⟩)
 obtain ⟨rfl, FL, hbc⟩ := hcut;have HT := Lib.hid (show fS L i = runesBytes (aO L i (aV L i)) from rfl);have hir : i ≤ aV L i := by
  unfold aV;split;exact eO _ _ _;exact Nat.le_refl _
 obtain ⟨r, hr⟩ : ∃ r, aV L i = r := ⟨_, rfl⟩;rw [hr] at FL HT hir;have B4 := Lib.hid hr;clear hr;have HCC := Lib.hid FL;have Zk := Lib.hid hbc;have YM := FL.le;have d0 := FL.ey.cell 0;have d1 := FL.ey.cell 1;have tD := vN (FL.drewN 1) hir YM;have fW : (i : Int) ≤ (r : Int) := (by omega);have hk2 : (r : Int) ≤ (c : Int) := (by have := FL.cap; omega);have qI : (0 : Int) ≤ (i : Int) := (by omega);clear FL hbc jo cy HC;generalize runesBytes (aO L i r) = T at *;go_upto_region 6 with fail;refine aR (S := (fun w' => w'.cell? ⟨C, 0, none⟩ = some (.slice (some ⟨b, off, none⟩) n c) ∧ w'.cell? ⟨C, 1, none⟩ = some (.int .i64 r) ∧ (convert 61 9 (.slice (if c = i then some ⟨b, off, none⟩ else some ⟨b, off + i, none⟩) (r - i) (c - i))).run Tryz.prog w' = .ok (.string T) w')) [4, 10, 12] (by kernel_rfl) ⟨d0, d1, tD⟩ (fun an => ?_);apply tp 0 54 rfl (by kernel_rfl) (fun _ _ _ h => h) (by rfl)
 ·intro wq _;go_simp;(try with_reducible rfl)
 (try simp only [zp, za, z0, zs]);apply tp 1 55 rfl (by kernel_rfl) (fun _ _ _ h => h) (by rfl)
 ·intro wq _;go_simp;(try with_reducible rfl)
 (try simp only [zp, za, z0, zs]);apply tp 2 56 rfl (by kernel_rfl) (fun _ _ _ h => h) (by rfl)
 ·intro wq _;go_simp;(try with_reducible rfl)
 (try simp only [zp, za, z0, zs]);apply tp 3 57 rfl (by kernel_rfl) (fun _ _ _ h => h) (by rfl)
 ·intro wq _;go_simp;(try with_reducible rfl)
 (try simp only [zp, za, z0, zs]);apply tt 4 58 rfl (by kernel_rfl) (fun _ _ _ h => h) (by rfl) (by assumption)
 ·intro wq aX;(try dsimp only at aX);go_simp;(try with_reducible rfl)
 (try simp only [zp, za, z0, zs]);apply tp 5 59 rfl (by kernel_rfl) (fun _ _ _ h => h) (by rfl)
 ·intro wq _;go_simp;(try with_reducible rfl)
 (try simp only [zp, za, z0, zs]);apply tp 6 60 rfl (by kernel_rfl) (fun _ _ _ h => h) (by rfl)
 ·intro wq _;go_simp;(try with_reducible rfl)
 (try simp only [zp, za, z0, zs]);apply tp 7 61 rfl (by kernel_rfl) (fun _ _ _ h => h) (by rfl)
 ·intro wq _;go_simp;(try with_reducible rfl)
 (try simp only [zp, za, z0, zs]);apply tp 8 62 rfl (by kernel_rfl) (fun _ _ _ h => h) (by rfl)
 ·intro wq _;go_simp;(try with_reducible rfl)
 (try simp only [zp, za, z0, zs]);apply tp 9 63 rfl (by kernel_rfl) (fun _ _ _ h => h) (by rfl)
 ·intro wq _;go_simp;(try with_reducible rfl)
 (try simp only [zp, za, z0, zs]);apply tt 10 64 rfl (by kernel_rfl) (fun _ _ _ h => h) (by rfl) (by assumption)
 ·intro wq aX;(try dsimp only at aX);go_simp;(try with_reducible rfl)
 (try simp only [zp, za, z0, zs]);apply tp 11 65 rfl (by kernel_rfl) (fun _ _ _ h => h) (by rfl)
 ·intro wq _;go_simp;(try with_reducible rfl)
 (try simp only [zp, za, z0, zs]);apply tt 12 66 rfl (by kernel_rfl) (fun _ _ _ h => h) (by rfl) (by assumption)
 ·intro wq aX;(try dsimp only at aX);go_simp;(try with_reducible rfl)
 (try simp only [zp, za, z0, zs]);apply tp 13 2 rfl (by kernel_rfl) (fun _ _ _ h => h) (by rfl)
 ·intro wq _;go_simp;(try with_reducible rfl)
 (try simp only [zp, za, z0, zs]);refine cL (by kernel_rfl) ?_ _;generalize (if c = i then some ({ block := b, off := off } : Addr) else some { block := b, off := off + i }) = Z;go_simp;go_wp2_with fail;go_ret;rw [HT.out, B4.out];exact ⟨rfl, HCC.out.drewN 1, Zk.out.trans (bK.drewN wc C 1)⟩
theorem Ea (w : World) (C : Nat) (A : Option Addr) (n c : Nat) (L : List Int) (i : Nat) (h : av w C A n c L i) (h0 : 0 < n) :
    Calls Tryz.prog 99 #[.pointer (some ⟨C, 0, none⟩)] w (JC Value.string w C A n c L (fh L i)) := by
 have HW := Lib.hid (pT w C A n c L i h h0);have c1 := h.ey.cell 1;have HN := Lib.hid (show fh L i = if cV (fS L i) = true then .ok (fS L i, aV L i) else .error (7, i) from rfl);obtain ⟨R, hR⟩ : ∃ R, fh L i = R := ⟨_, rfl⟩;rw [hR];rw [hR] at HN;clear h hR;generalize fS L i = T at *;generalize aV L i = r at *;have yw := Lib.hid (fun (W : World) => iV T W);cases hnm : cV T with
 | true =>
  rw [hnm] at HN yw;go_enter Tryz.func99, Tryz.ntmps99;go_wp2_with fail;refine HW.out.mono ?_;rintro e w1 ⟨rfl, fO, bt⟩;have jo := Lib.hid fO;have cy := Lib.hid bt;clear fO bt;go_wp2_with fail;refine (yw.out _).mono ?_;rintro e w2 ⟨rfl, rfl⟩;go_wp2_with fail;go_ret;rw [HN.out];exact ⟨rfl, jo.out, cy.out⟩
 | false =>
  rw [hnm] at HN yw;go_enter Tryz.func99, Tryz.ntmps99;go_wp2_with fail;refine HW.out.mono ?_;rintro e w1 ⟨rfl, fO, bt⟩;have jo := Lib.hid fO;have cy := Lib.hid bt;clear fO bt;go_wp2_with fail;refine (yw.out _).mono ?_;rintro e w2 ⟨rfl, rfl⟩;go_wp2_with fail;refine (bX 7 i _).mono ?_;rintro e w3 ⟨rfl, rfl⟩;go_wp2_with fail;rw [HN.out];exact ⟨rfl, rfl, cy.out⟩
def Jb (L : List Int) (i : Nat) : Bool := decide (pk L (ai L (aV L (i + 1))) = 61)
theorem sI (w : World) (C : Nat) (A : Option Addr) (n c : Nat) (L : List Int) (i : Nat) (h : av w C A n c L i) (hi : i < n) :
    Calls Tryz.prog 98 #[.pointer (some ⟨C, 0, none⟩)] w fun e w' => e = .returned (.bool (Jb L i)) ∧ Below w.heap.size w w' := by
 have hs := h.size;have c0 := h.ey.cell 0;have c1 := h.ey.cell 1;have hw1 : IntKind.i64.wrap ((i : Int) + 1) = (i : Int) + 1 := wrap_small _ (by omega) (by omega)
 have HN := Lib.hid (show av (w.alloc (.cells #[.slice A n c, .int .i64 ((i : Int) + 1)] 92)) w.heap.size A n c L (i + 1) from
   ⟨⟨_, by rw [show (((i + 1 : Nat)) : Int) = (i : Int) + 1 by omega]; exact au.new _ _ _⟩, (h.row.lift (X' := fun _ => True) (fun _ _ => trivial)).keep (ag.alloc _ (fun b _ hl => Nat.ne_of_lt hl)), h.size, hi, h.cap⟩)
 have HB := Lib.hid (show Below w.heap.size w (w.alloc (.cells #[.slice A n c, .int .i64 ((i : Int) + 1)] 92)) from (Below.refl _ _).alloc (Nat.le_refl _) _);have HV := Lib.hid (show Jb L i = decide (pk L (ai L (aV L (i + 1))) = 61) from rfl);clear h;go_enter Tryz.func98, Tryz.ntmps98;go_wp2_with fail;refine (pT _ w.heap.size A n c L (i + 1) HN.out (by omega)).mono ?_;rintro e w1 ⟨rfl, fO, bt⟩;have jo := Lib.hid fO;have cy := Lib.hid (HB.out.trans (bt.to HB.out.size (Nat.le_refl _)));clear fO bt;go_wp2_with fail;refine (i9 _ w.heap.size A n c L _ jo.out).mono ?_;rintro e w2 ⟨rfl, jj, bn⟩;have qt := Lib.hid jj;have cE := Lib.hid (cy.out.trans (bn.to cy.out.size (Nat.le_refl _)));clear jj bn;go_wp2_with fail;refine (cG _ w.heap.size A n c L _ qt.out).mono ?_;rintro e w3 ⟨rfl, kJ, aJ⟩;have dQ := Lib.hid (cE.out.trans (aJ.to cE.out.size (Nat.le_refl _)));clear kJ aJ;go_wp2_with fail;go_ret;rw [HV.out];exact ⟨e9 (by first | rfl | (rw [Bool.eq_iff_iff]; simp)), dQ.out⟩
theorem xu : (Tryz.prog.info? 114).map (fun i => (i.zero, i.size, i.bytes)) = some (some (.agg #[.int .i64 0, .int .i32 0, .slice none 0 0, .string ⟨#[]⟩]), 4, 56) := by kernel_rfl
def gD (l : List Int) : List Value := l.flatMap fun x => [.int .i64 1, .int .i32 x, .slice none 0 0, .string ⟨#[]⟩]
theorem Bk (l : List Int) (x : Int) : gD (l ++ [x]) = gD l ++ [.int .i64 1, .int .i32 x, .slice none 0 0, .string ⟨#[]⟩] := by simp [gD]
theorem Mg (x : Int) : ∀ u ∈ [Value.int .i64 1, .int .i32 x, .slice none 0 0, .string ⟨#[]⟩], u.oneCell' = true := by
 intro u hu;simp at hu;rcases hu with rfl | rfl | rfl | rfl <;> rfl
theorem zU {L : List Int} {a j : Nat} (ha : a ≤ j) (hj : j < L.length) : aO L a (j + 1) = aO L a j ++ [pk L j] := by
 unfold aO;rw [show j + 1 - a = (j - a) + 1 by omega, List.take_add_one, List.getElem?_drop, show a + (j - a) = j by omega, List.getElem?_eq_getElem hj, Aj (List.getElem?_eq_getElem hj)];rfl
theorem zK (L : List Int) (a : Nat) : aO L a a = [] := by unfold aO; rw [Nat.sub_self]; rfl
theorem eW {w w1 w2 : World} {C : Nat} (h : bK w C w1) (hb : Below w.heap.size w1 w2) : bK w C w2 :=
  ⟨Nat.le_trans h.1 hb.size, hb.os.trans h.2.1, hb.tape.trans h.2.2.1, hb.output.trans h.2.2.2.1, fun k hk hne => (hb.block k hk).trans (h.2.2.2.2 k hk hne)⟩
structure gT (lo : Nat) (w : World) (C : Nat) (A : Option Addr) (n c : Nat) (L : List Int) (i : Nat) : Prop where
  cur : av w C A n c L i
  row : fl w (fun b => b ≠ C ∧ b < lo) 1 A n (runeCells L)
  lt : C < lo
theorem gT.start {w : World} {C : Nat} {A : Option Addr} {n c : Nat} {L : List Int} {i : Nat} (h : av w C A n c L i) : gT w.heap.size w C A n c L i :=
  ⟨h, h.row.keep (fun _ hX hl => ⟨rfl, ⟨hX, hl⟩, hl⟩), h.ey.lt⟩
theorem gT.but {lo : Nat} {w w' : World} {C : Nat} {A : Option Addr} {n c : Nat} {L : List Int} {i j : Nat} (h : gT lo w C A n c L i) (hc : av w' C A n c L j) (hb : bK w C w') : gT lo w' C A n c L j :=
  ⟨hc, h.row.keep (hb.keeps (fun _ h => h.1) (fun _ h _ => h)), h.lt⟩
theorem gT.below {lo : Nat} {w w' : World} {C : Nat} {A : Option Addr} {n c : Nat} {L : List Int} {i : Nat} (h : gT lo w C A n c L i) (hb : Below lo w w') : gT lo w' C A n c L i := by
 have hr : fl w' (fun b => b ≠ C ∧ b < lo) 1 A n (runeCells L) := h.row.keep (fun b hX hl => ⟨hb.block b hX.2, hX, Nat.lt_of_lt_of_le hl hb.size⟩);exact ⟨⟨h.cur.ey.same (hb.block C h.lt), hr.lift (fun _ h => h.1), h.cur.size, h.cur.le, h.cur.cap⟩, hr, h.lt⟩
theorem gT.drewN {lo : Nat} {w : World} {C : Nat} {A : Option Addr} {n c : Nat} {L : List Int} {i : Nat} (h : gT lo w C A n c L i) (k : Nat) : gT lo (w.drewN k) C A n c L i := h.but (h.cur.drewN k) (bK.drewN w C k)
def JQ (w : World) (C : Nat) (A : Option Addr) (n c : Nat) (L : List Int) (i : Nat) (e : Ending) (w' : World) : Prop :=
  (pk L (aA kA L (i + 1)) = 39 ∧ (∃ B m d, e = .returned (.slice B m d) ∧ fl w' (fun b => w.heap.size ≤ b) 4 B m (gD (aO L (i + 1) (aA kA L (i + 1)))) ∧ m ≤ d ∧ m ≤ n) ∧ av w' C A n c L (aA kA L (i + 1) + 1) ∧ bK w C w') ∨
    (pk L (aA kA L (i + 1)) ≠ 39 ∧ e = aZ 2 (aA kA L (i + 1)) ∧ bK w C w')
theorem EL (w : World) (C : Nat) (A : Option Addr) (n c : Nat) (L : List Int) (i : Nat) (h : av w C A n c L i) (hi : i < n) (hn : n ≤ 100000) :
    Calls Tryz.prog 179 #[.pointer (some ⟨C, 0, none⟩)] w (JQ w C A n c L i) := by
 obtain ⟨i0, GO, z0, z1, z2⟩ := info_parts xu;have hl := h.len;have hw1 : IntKind.i64.wrap ((i : Int) + 1) = (i : Int) + 1 := wrap_small _ (by omega) (by omega);obtain ⟨d1, d2, d3, d4⟩ := h.step hi;have TQ := Lib.hid ((gT.start h).but d3 d4);have jR := Lib.hid d4;have fP := Lib.hid (fun (W : World) (m : Nat) (h : av W C A n c L m) => lg W C A n c L m h);obtain ⟨r, hr⟩ : ∃ r, aA kA L (i + 1) = r := ⟨_, rfl⟩;have HR := Lib.hid hr;unfold JQ;rw [hr];clear h d3 d4 hr;go_enter Tryz.func179, Tryz.ntmps179;go_wp2_with fail;go_loopw [3] (fun out wr => ∃ j : Nat, i + 1 ≤ j ∧ j ≤ n ∧ r = aA kA L j ∧ wr.ownsRow w.heap.size 114 4 out (j - (i + 1)) (gD (aO L (i + 1) j)) ∧ gT w.heap.size wr C A n c L j ∧ bK w C wr) (fun _ wr => n - (match wr.cell? ⟨C, 1, none⟩ with | some (.int _ j) => j.toNat | _ => 0));(case atStart => exact ⟨i + 1, Nat.le_refl _, hi, HR.out.symm, by rw [Nat.sub_self, zK]; exact World.ownsRow_nil _ _ _ _, TQ.out, jR.out⟩);obtain ⟨j, hij, hjn, hrun, hown, rS, Ar⟩ := hrel;have HJ := Lib.hid rS;have HB := Lib.hid Ar;have HO := Lib.hid hown;have NU := Lib.hid hrun;have sn := Lib.hid (rS.cur.ey.cell 1);obtain ⟨Av, cv, rfl, tD⟩ := aT hown;have Z8 : IntKind.i64.wrap ((j : Int) + 1) = (j : Int) + 1 := wrap_small _ (by omega) (by omega);obtain ⟨x, hx⟩ : ∃ x, pk L j = x := ⟨_, rfl⟩;have HX := Lib.hid hx;have HP := Lib.hid (fun (W : World) (h : av W C A n c L j) => show Calls Tryz.prog 57 #[.pointer (some ⟨C, 0, none⟩)] W fun e w' => e = .returned (.int .i32 x) ∧ ∃ m, w' = W.drewN m by have := fP.out W j h; rwa [hx] at this);clear rS Ar hown hrun hx;by_cases wM : x = 39
 ·have hj : r = j := NU.out.trans (cx (fun _ => by rw [HX.out, wM]; rfl));have hlt : j < n := (by rw [← hl]; exact bA (by rw [HX.out]; omega));subst wM;go_wp2_with fail;refine (HP.out _ HJ.out.cur).mono ?_;rintro e w3 ⟨rfl, m3, CT⟩;have jy := Lib.hid (HJ.out.drewN m3);have dQ := Lib.hid (HB.out.trans (bK.drewN _ C m3));have tg := Lib.hid (show (World.drewN _ m3).ownsRow w.heap.size 114 4 _ _ _ from HO.out);rw [← CT] at jy dQ tg;clear CT;have tT := Lib.hid (fl.gN (X := fun b => w.heap.size ≤ b) tg.out (fun b hb => (bM tg.out hb).1));obtain ⟨s1, s2, s3, s4⟩ := jy.out.cur.step hlt;have AY := Lib.hid s3;have iW := Lib.hid (dQ.out.trans s4);have Vv := jy.out.lt;have Tf := Lib.hid (tT.out.keep (s4.keeps (X' := fun b => w.heap.size ≤ b) (fun b h => by omega) (fun b h _ => h)));clear s3 s4;have Uh := Lib.hid hj;clear hj;go_wp2_with fail;go_ret;left;rw [Uh.out];exact ⟨HX.out, ⟨Av, _, cv, rfl, Tf.out, tD, by omega⟩, AY.out, iW.out⟩
 have Zd : (x != 39) = true := (by simp; exact wM);by_cases hneg : x < 0
 ·have hj : r = j := NU.out.trans (cx (fun _ => by rw [HX.out]; unfold kA; rw [decide_eq_false (by omega)]; rfl));have Uh := Lib.hid hj;have Hv := Lib.hid (show pk L j ≠ 39 by rw [HX.out]; exact wM);clear hj wM;go_wp2_with fail;refine (HP.out _ HJ.out.cur).mono ?_;rintro e w3 ⟨rfl, m3, CT⟩;have jy := Lib.hid (HJ.out.drewN m3);have dQ := Lib.hid (HB.out.trans (bK.drewN _ C m3));have tg := Lib.hid (show (World.drewN _ m3).ownsRow w.heap.size 114 4 _ _ _ from HO.out);rw [← CT] at jy dQ tg;clear CT;go_wp2_with fail;refine (HP.out _ jy.out.cur).mono ?_;rintro e w4 ⟨rfl, m4, O5⟩;have Ca := Lib.hid (jy.out.drewN m4);have iW := Lib.hid (dQ.out.trans (bK.drewN _ C m4));have CR := Lib.hid (show (World.drewN _ m4).ownsRow w.heap.size 114 4 _ _ _ from tg.out);rw [← O5] at Ca iW CR;clear O5;have k1 := Ca.out.cur.ey.cell 1;go_wp2_with fail;refine (bX 2 j _).mono ?_;rintro e w5 ⟨rfl, rfl⟩;go_wp2_with fail;rw [Uh.out];exact ⟨rfl, .inr ⟨Hv.out, rfl, iW.out⟩⟩
 have hge : decide (x < 0) = false := decide_eq_false hneg;have hlt : j < n := (by rw [← hl]; exact bA (by rw [HX.out]; omega));have TE := Lib.hid (NU.out.trans (cZ (p := kA) (by omega) (by rw [HX.out]; unfold kA; simp; omega)));have Oa := Lib.hid (show gD (aO L (i + 1) (j + 1)) = gD (aO L (i + 1) j) ++ [.int .i64 1, .int .i32 x, .slice none 0 0, .string ⟨#[]⟩] by rw [zU hij (by omega), Bk, HX.out]);clear wM hneg;go_wp2_with fail;refine (HP.out _ HJ.out.cur).mono ?_;rintro e w3 ⟨rfl, m3, CT⟩;have jy := Lib.hid (HJ.out.drewN m3);have dQ := Lib.hid (HB.out.trans (bK.drewN _ C m3));have tg := Lib.hid (show (World.drewN _ m3).ownsRow w.heap.size 114 4 _ _ _ from HO.out);rw [← CT] at jy dQ tg;clear CT;go_wp2_with fail;refine (HP.out _ jy.out.cur).mono ?_;rintro e w4 ⟨rfl, m4, O5⟩;have Ca := Lib.hid (jy.out.drewN m4);have iW := Lib.hid (dQ.out.trans (bK.drewN _ C m4));have CR := Lib.hid (show (World.drewN _ m4).ownsRow w.heap.size 114 4 _ _ _ from tg.out);rw [← O5] at Ca iW CR;clear O5;have AP := Lib.hid (fun (W : World) => Rd.new W 114 4 1 [.int .i64 1, .int .i32 x, .slice none 0 0, .string ⟨#[]⟩] rfl);go_wp2_with fail;refine (HP.out _ Ca.out.cur).mono ?_;rintro e w5 ⟨rfl, m5, J'⟩;have DY := Lib.hid (Ca.out.drewN m5);have fR := Lib.hid (iW.out.trans (bK.drewN _ C m5));have GG := Lib.hid (show (World.drewN _ m5).ownsRow w.heap.size 114 4 _ _ _ from CR.out);rw [← J'] at DY fR GG;clear J';have B5 := Lib.hid (World.ownsRow.alloc GG.out (.cells #[.int .i64 1, .int .i32 x, .slice none 0 0, .string ⟨#[]⟩] 114));have fE := (Below.refl w5.heap.size w5).alloc (Nat.le_refl _) (.cells #[.int .i64 1, .int .i32 x, .slice none 0 0, .string ⟨#[]⟩] 114);have J' := fR.out.1;have jM := Lib.hid (bK.below (w := w5) C fE)
 have qG := Lib.hid (fR.out.trans jM.out);have yR := Lib.hid (DY.out.below (fE.mono J'));have hsz := qG.out.1;clear fE;go_wp2_with (at_builtin; refine ax _ rfl (.tmp 29) (.tmp 35) 94 rfl w.heap.size 114 i0 _ 4 56 Tryz.underlying94 GO z0 z1 z2 rfl (by decide) _ _ _ rfl B5.out (w5.heap.size + 1) (some ⟨w5.heap.size, 0, none⟩) 1 1 [.int .i64 1, .int .i32 x, .slice none 0 0, .string ⟨#[]⟩] rfl (AP.out w5) (Mg x) (by simp only [maxLen]; omega) (by omega) hsz ?_);intro v' w9 aB;have dn := aB.below hsz B5.out;have FT := Lib.hid (yR.out.below dn);have iR := Lib.hid (eW qG.out dn);have kB := Lib.hid (show w9.ownsRow w.heap.size 114 4 v' (j + 1 - (i + 1)) (gD (aO L (i + 1) (j + 1))) by
  have := aB.own;rw [Oa.out, show j + 1 - (i + 1) = j - (i + 1) + 1 by omega];exact this)
 clear aB dn;obtain ⟨s1, s2, s3, s4⟩ := FT.out.cur.step hlt;have V9 := Lib.hid (FT.out.but s3 s4);have Ow := Lib.hid (iR.out.trans s4);have Vv := FT.out.lt;obtain ⟨A9, c9, rfl, _⟩ := aT kB.out;have YJ := Lib.hid (ownsRow_setCell_below kB.out (a := ⟨C, 1, none⟩) Vv (.int .i64 ((j : Int) + 1)));clear s3 s4;go_wp2_with fail;refine ⟨⟨j + 1, by omega, hlt, TE.out, YJ.out, V9.out, Ow.out⟩, ?_⟩;have e1 : (w9.setCell ⟨C, 1, none⟩ (.int .i64 ((j : Int) + 1))).cell? ⟨C, 1, none⟩ = some (.int .i64 ((j + 1 : Nat) : Int)) := V9.out.cur.ey.cell 1;have e2 : wr.cell? ⟨C, 1, none⟩ = some (.int .i64 (j : Int)) := sn.out;rw [e1, e2];simp only [Int.toNat_natCast];omega
end Go.Proofs.YthnhbcohfoodlaaGreatDoor
