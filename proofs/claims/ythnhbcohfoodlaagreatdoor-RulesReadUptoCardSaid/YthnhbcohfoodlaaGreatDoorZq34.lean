/- CurClass + dW -/
import Derived.Test.YthnhbcohfoodlaaGreatDoorZq30
import Derived.Test.YthnhbcohfoodlaaGreatDoorZq24
set_option maxHeartbeats 6400000
set_option maxRecDepth 100000
namespace Go.Proofs.YthnhbcohfoodlaaGreatDoor
open Go.RowKit
def KX (p : Int → Bool) (w : World) (C : Nat) (A : Option Addr) (n c : Nat) (L : List Int) (a r : Nat) (wr : World) : Prop :=
  ∃ j, a ≤ j ∧ j ≤ n ∧ r = aq p L j ∧ au wr C A n c L j ∧ aF w C wr
theorem uk {L : List Int} {i r : Nat} (hr : aq bL L (i + 2) = r) (h : eO (ay L (i + 2) r) = none) : dN L i = .error (7, i + 2) := by subst hr; unfold dN; rw [h]
theorem uA {L : List Int} {i r : Nat} {s : ag} {e : Int × Nat} (hr : aq bL L (i + 2) = r) (h : eO (ay L (i + 2) r) = some s) (h2 : aH L r 58 = .error e) : dN L i = .error e := by subst hr; unfold dN; rw [h]; simp only; rw [h2]
theorem uu {L : List Int} {i r j : Nat} {s : ag} {e : Int × Nat} (hr : aq bL L (i + 2) = r) (h : eO (ay L (i + 2) r) = some s) (h2 : aH L r 58 = .ok j) (h3 : aH L j 93 = .error e) : dN L i = .error e := by subst hr; unfold dN; rw [h]; simp only; rw [h2]; simp only; rw [h3]
theorem xQ {L : List Int} {i r j k : Nat} {s : ag} (hr : aq bL L (i + 2) = r) (h : eO (ay L (i + 2) r) = some s) (h2 : aH L r 58 = .ok j) (h3 : aH L j 93 = .ok k) : dN L i = .ok (s, k) := by subst hr; unfold dN; rw [h]; simp only; rw [h2]; simp only; rw [h3]
theorem j4 (l : List Int) (h : l.length ≤ 4611686018427387904) (h2 : l.length ≤ 100000) : (runesBytes l).size ≤ maxLen := by
 have := runesBytes_size_le l;simp only [maxLen];omega
theorem CN (w : World) (C : Nat) (A : Option Addr) (n c : Nat) (L : List Int) (i : Nat) (h : au w C A n c L i) (hL : cA L) (hi : i + 2 ≤ n) (hn : n ≤ 100000) :
    Calls Tryz.prog 78 #[.pointer (some ⟨C, 0, none⟩)] w (dJ w C A n c L (dN L i)) := by
 have hs := h.size;have hlen := h.len;obtain ⟨b, off, rfl, _, _⟩ := h.at (by omega);have HL := Lib.hid hL;have c0 := h.cX.cell 0;have c1 := h.cX.cell 1;have f1 := h.cX.frozen 1;have hw1 : IntKind.i64.wrap ((i : Int) + 2) = (i : Int) + 2 := wrap_small _ (by omega) (by omega);have hm := h.move (j := i + 2) hi;have Ir := aF.set w C 1 (.int .i64 ((i + 2 : Nat) : Int));rw [show (((i + 2 : Nat)) : Int) = (i : Int) + 2 by omega] at hm Ir;have HM := Lib.hid hm;have b8 := Lib.hid Ir;obtain ⟨R, hR⟩ : ∃ R, dN L i = R := ⟨_, rfl⟩;rw [hR];have iM := Lib.hid hR;clear hL hm h Ir hR;obtain ⟨r, hr⟩ : ∃ r, aq bL L (i + 2) = r := ⟨_, rfl⟩;have mR := Lib.hid hr;have hi2 : ((i + 2 : Nat) : Int) = (i : Int) + 2 := (by omega);obtain ⟨a, ha⟩ : ∃ a, i + 2 = a := ⟨_, rfl⟩;have Qz : (i : Int) + 2 = (a : Int) := (by omega);have HA := Lib.hid ha;rw [Qz] at HM b8 hw1;rw [ha] at HM;clear hr hi2;go_enter Tryz.func78, Tryz.ntmps78;go_wp2_with fail;go_loopw [17] (fun _ wr => KX bL w C (some ⟨b, off, none⟩) n c L a r wr) (fun _ wr => n - (match wr.cell? ⟨C, 1, none⟩ with | some (.int _ j) => j.toNat | _ => 0));(case atStart => exact ⟨a, Nat.le_refl _, HM.out.le, by rw [← mR.out, HA.out], HM.out, b8.out⟩);obtain ⟨j, CU, hj, hrun, lT, uM⟩ := hrel;have HJ := Lib.hid lT;have HB := Lib.hid uM;have HR := Lib.hid hrun;have fR := Lib.hid (fun (W : World) (h : au W C (some ⟨b, off, none⟩) n c L j) => cy W C (some ⟨b, off, none⟩) n c L j h);have gT := Lib.hid (lT.cX.cell 1);have vE := Lib.hid (fun (W : World) => lX (pk L j) W (HL.out.pk j));clear lT uM hrun;by_cases yR : bL (pk L j) = true
 ·rw [yR] at vE;have hlt : j < L.length := aS (fun e => by rw [e] at yR; exact absurd yR (by decide));have yQ : IntKind.i64.wrap ((j : Int) + 1) = (j : Int) + 1 := wrap_small _ (by omega) (by omega);go_wp2_with fail;refine (fR.out _ HJ.out).mono ?_;rintro e w2 ⟨rfl, dQ, aU⟩;have fV := Lib.hid dQ;have cS := Lib.hid (HB.out.trans aU);clear dQ aU;go_wp2_with fail;refine (vE.out _).mono ?_;rintro e w3 ⟨rfl, bN⟩;have eL := Lib.hid (fV.out.below bN);have bV := Lib.hid (cS.out.trans (aF.below C bN));clear bN;obtain ⟨d1, d2, d3, d4⟩ := eL.out.step (by omega);have tv := Lib.hid d3;have cG := Lib.hid (bV.out.trans d4);clear d3 d4;go_wp2_with fail;refine ⟨⟨j + 1, by omega, by omega, HR.out.trans (bD hlt yR), tv.out, cG.out⟩, ?_⟩;have e1 : (w3.setCell ⟨C, 1, none⟩ (.int .i64 ((j : Int) + 1))).cell? ⟨C, 1, none⟩ = some (.int .i64 ((j + 1 : Nat) : Int)) := tv.out.cX.cell 1;have e2 : wr.cell? ⟨C, 1, none⟩ = some (.int .i64 (j : Int)) := gT.out;rw [e1, e2];simp only [Int.toNat_natCast];omega
 rw [Bool.not_eq_true] at yR;rw [yR] at vE;obtain rfl : r = j := HR.out.trans (bw (fun _ => yR));clear HR;go_wp2_with fail;refine (fR.out _ HJ.out).mono ?_;rintro e w2 ⟨rfl, dQ, aU⟩;have fV := Lib.hid dQ;have cS := Lib.hid (HB.out.trans aU);clear dQ aU;go_wp2_with fail;refine (vE.out _).mono ?_;rintro e w3 ⟨rfl, bN⟩;have eL := Lib.hid (fV.out.below bN);have bV := Lib.hid (cS.out.trans (aF.below C bN));have Mn := Lib.hid (show Below w3.heap.size w3 w3.drew from (Below.refl _ _).drew);clear bN;have d0 := eL.out.cX.cell 0;have d1 := eL.out.cX.cell 1;have kr := sO (eL.out.drewN 1) CU hj;have mT : (a : Int) ≤ (r : Int) := (by omega);have hk2 : (r : Int) ≤ (c : Int) := (by have := eL.out.cap; omega);have G2 : (0 : Int) ≤ (a : Int) := (by omega);have hts : (runesBytes (ay L a r)).size ≤ maxLen := j4 _ (by unfold ay; rw [List.length_take]; omega) (by unfold ay; rw [List.length_take]; omega);have MD := Lib.hid (qT (ay L a r));generalize runesBytes (ay L a r) = T at *;have iZ := Lib.hid (fun (W : World) => Bp T W hts);clear hts;cases xp : eO (ay L a r) with
 | none =>
  have HT := Lib.hid (MD.out.trans xp);have oe := Lib.hid (show R = .error (7, i + 2) from iM.out.symm.trans (uk mR.out (by rw [HA.out]; exact xp)));clear xp;go_upto_region 5 with fail;refine aD (S := (fun w' => w'.cell? ⟨C, 0, none⟩ = some (.slice (some ⟨b, off, none⟩) n c) ∧ w'.cell? ⟨C, 1, none⟩ = some (.int .i64 r) ∧ (convert 61 9 (.slice (if c = a then some ⟨b, off, none⟩ else some ⟨b, off + a, none⟩) (r - a) (c - a))).run Tryz.prog w' = .ok (.string T) w')) [3, 8, 10] (by kernel_rfl) ⟨d0, d1, kr⟩ (fun bf => ?_);refine aa (i := 0) (oi := ⟨some 28, _, _, _, _, _⟩) (v := ?_) rfl (by kernel_rfl) (by kernel_rfl) (by kernel_rfl) (fun _ _ _ h => h) (Or.inl ⟨by rfl, ?_⟩) ?_;rotate_left 1
  ·intro wq _;go_simp;(try with_reducible rfl)
  (try simp only [Act.put, List.setIfInBounds_toArray, List.set_cons_zero, List.set_cons_succ]);refine aa (i := 1) (oi := ⟨some 29, _, _, _, _, _⟩) (v := ?_) rfl (by kernel_rfl) (by kernel_rfl) (by kernel_rfl) (fun _ _ _ h => h) (Or.inl ⟨by rfl, ?_⟩) ?_;rotate_left 1
  ·intro wq _;go_simp;(try with_reducible rfl)
  (try simp only [Act.put, List.setIfInBounds_toArray, List.set_cons_zero, List.set_cons_succ]);refine aa (i := 2) (oi := ⟨some 30, _, _, _, _, _⟩) (v := ?_) rfl (by kernel_rfl) (by kernel_rfl) (by kernel_rfl) (fun _ _ _ h => h) (Or.inl ⟨by rfl, ?_⟩) ?_;rotate_left 1
  ·intro wq _;go_simp;(try with_reducible rfl)
  (try simp only [Act.put, List.setIfInBounds_toArray, List.set_cons_zero, List.set_cons_succ]);refine ai (i := 3) (oi := ⟨some 31, _, _, _, _, _⟩) (v := ?_) rfl (by kernel_rfl) (by kernel_rfl) (by kernel_rfl) (by kernel_rfl) (by kernel_rfl) (fun _ _ _ h => h) (Or.inl ⟨by rfl, ?_⟩) (by assumption) ?_;rotate_left 1
  ·intro wq bS;(try dsimp only at bS);go_simp;(try with_reducible rfl)
  (try simp only [Act.put, List.setIfInBounds_toArray, List.set_cons_zero, List.set_cons_succ]);refine aa (i := 4) (oi := ⟨some 32, _, _, _, _, _⟩) (v := ?_) rfl (by kernel_rfl) (by kernel_rfl) (by kernel_rfl) (fun _ _ _ h => h) (Or.inl ⟨by rfl, ?_⟩) ?_;rotate_left 1
  ·intro wq _;go_simp;(try with_reducible rfl)
  (try simp only [Act.put, List.setIfInBounds_toArray, List.set_cons_zero, List.set_cons_succ]);refine aa (i := 5) (oi := ⟨some 33, _, _, _, _, _⟩) (v := ?_) rfl (by kernel_rfl) (by kernel_rfl) (by kernel_rfl) (fun _ _ _ h => h) (Or.inl ⟨by rfl, ?_⟩) ?_;rotate_left 1
  ·intro wq _;go_simp;(try with_reducible rfl)
  (try simp only [Act.put, List.setIfInBounds_toArray, List.set_cons_zero, List.set_cons_succ]);refine aa (i := 6) (oi := ⟨some 34, _, _, _, _, _⟩) (v := ?_) rfl (by kernel_rfl) (by kernel_rfl) (by kernel_rfl) (fun _ _ _ h => h) (Or.inl ⟨by rfl, ?_⟩) ?_;rotate_left 1
  ·intro wq _;go_simp;(try with_reducible rfl)
  (try simp only [Act.put, List.setIfInBounds_toArray, List.set_cons_zero, List.set_cons_succ]);refine aa (i := 7) (oi := ⟨some 35, _, _, _, _, _⟩) (v := ?_) rfl (by kernel_rfl) (by kernel_rfl) (by kernel_rfl) (fun _ _ _ h => h) (Or.inl ⟨by rfl, ?_⟩) ?_;rotate_left 1
  ·intro wq _;go_simp;(try with_reducible rfl)
  (try simp only [Act.put, List.setIfInBounds_toArray, List.set_cons_zero, List.set_cons_succ]);refine ai (i := 8) (oi := ⟨some 36, _, _, _, _, _⟩) (v := ?_) rfl (by kernel_rfl) (by kernel_rfl) (by kernel_rfl) (by kernel_rfl) (by kernel_rfl) (fun _ _ _ h => h) (Or.inl ⟨by rfl, ?_⟩) (by assumption) ?_;rotate_left 1
  ·intro wq bS;(try dsimp only at bS);go_simp;(try with_reducible rfl)
  (try simp only [Act.put, List.setIfInBounds_toArray, List.set_cons_zero, List.set_cons_succ]);refine aa (i := 9) (oi := ⟨some 37, _, _, _, _, _⟩) (v := ?_) rfl (by kernel_rfl) (by kernel_rfl) (by kernel_rfl) (fun _ _ _ h => h) (Or.inl ⟨by rfl, ?_⟩) ?_;rotate_left 1
  ·intro wq _;go_simp;(try with_reducible rfl)
  (try simp only [Act.put, List.setIfInBounds_toArray, List.set_cons_zero, List.set_cons_succ]);refine ai (i := 10) (oi := ⟨some 38, _, _, _, _, _⟩) (v := ?_) rfl (by kernel_rfl) (by kernel_rfl) (by kernel_rfl) (by kernel_rfl) (by kernel_rfl) (fun _ _ _ h => h) (Or.inl ⟨by rfl, ?_⟩) (by assumption) ?_;rotate_left 1
  ·intro wq bS;(try dsimp only at bS);go_simp;(try with_reducible rfl)
  (try simp only [Act.put, List.setIfInBounds_toArray, List.set_cons_zero, List.set_cons_succ]);refine az (i := 11) (o := ⟨some 39, _, _, _, _, _⟩) (by kernel_rfl) rfl (by kernel_rfl) (fun K hK => ?_);go_simp;go_at_call 129;refine (iZ.out _).mono ?_;rintro e w6 Is;unfold l6 at Is;rw [HT.out] at Is;obtain ⟨rfl, ck⟩ := Is;(try dsimp only);refine hK.out _ _ ?_;clear hK K;(try simp only [Act.put, List.setIfInBounds_toArray, List.set_cons_zero, List.set_cons_succ]);refine aa (i := 12) (oi := ⟨some 27, _, _, _, _, _⟩) (v := ?_) rfl (by kernel_rfl) (by kernel_rfl) (by kernel_rfl) (fun _ _ _ h => h) (Or.inl ⟨by rfl, ?_⟩) ?_;rotate_left 1
  ·intro wq _;go_simp;(try with_reducible rfl)
  (try simp only [Act.put, List.setIfInBounds_toArray, List.set_cons_zero, List.set_cons_succ]);refine aa (i := 13) (oi := ⟨some 40, _, _, _, _, _⟩) (v := ?_) rfl (by kernel_rfl) (by kernel_rfl) (by kernel_rfl) (fun _ _ _ h => h) (Or.inl ⟨by rfl, ?_⟩) ?_;rotate_left 1
  ·intro wq _;go_simp;(try with_reducible rfl)
  (try simp only [Act.put, List.setIfInBounds_toArray, List.set_cons_zero, List.set_cons_succ]);refine aa (i := 14) (oi := ⟨some 41, _, _, _, _, _⟩) (v := ?_) rfl (by kernel_rfl) (by kernel_rfl) (by kernel_rfl) (fun _ _ _ h => h) (Or.inl ⟨by rfl, ?_⟩) ?_;rotate_left 1
  ·intro wq _;go_simp;(try with_reducible rfl)
  (try simp only [Act.put, List.setIfInBounds_toArray, List.set_cons_zero, List.set_cons_succ]);refine aa (i := 15) (oi := ⟨some 4, _, _, _, _, _⟩) (v := ?_) rfl (by kernel_rfl) (by kernel_rfl) (by kernel_rfl) (fun _ _ _ h => h) (Or.inl ⟨by rfl, ?_⟩) ?_;rotate_left 1
  ·intro wq _;go_simp;(try with_reducible rfl)
  (try simp only [Act.put, List.setIfInBounds_toArray, List.set_cons_zero, List.set_cons_succ]);refine aa (i := 16) (oi := ⟨some 5, _, _, _, _, _⟩) (v := ?_) rfl (by kernel_rfl) (by kernel_rfl) (by kernel_rfl) (fun _ _ _ h => h) (Or.inl ⟨by rfl, ?_⟩) ?_;rotate_left 1
  ·intro wq _;go_simp;(try with_reducible rfl)
  (try simp only [Act.put, List.setIfInBounds_toArray, List.set_cons_zero, List.set_cons_succ]);refine aN (by kernel_rfl) ?_ _;generalize (if c = a then some ({ block := b, off := off } : Addr) else some { block := b, off := off + a }) = Z;have fu := Lib.hid (bV.out.trans (aF.below C (Mn.out.trans (Below.mono ck (Nat.le_refl _)))));have HF := Lib.hid (fun (W : World) => bW 7 a W);clear ck;go_simp;go_wp2_with fail;refine (HF.out _).mono ?_;rintro e w7 ⟨rfl, rfl⟩;go_wp2_with fail;rw [oe.out, HA.out];exact ⟨rfl, rfl, fu.out⟩
 | some s =>
  have HT := Lib.hid (MD.out.trans xp);have zk := Lib.hid (show eO (ay L (i + 2) r) = some s by rw [HA.out]; exact xp);clear xp;go_upto_region 5 with fail;refine aD (S := (fun w' => w'.cell? ⟨C, 0, none⟩ = some (.slice (some ⟨b, off, none⟩) n c) ∧ w'.cell? ⟨C, 1, none⟩ = some (.int .i64 r) ∧ (convert 61 9 (.slice (if c = a then some ⟨b, off, none⟩ else some ⟨b, off + a, none⟩) (r - a) (c - a))).run Tryz.prog w' = .ok (.string T) w')) [3, 8, 10] (by kernel_rfl) ⟨d0, d1, kr⟩ (fun bf => ?_);refine aa (i := 0) (oi := ⟨some 28, _, _, _, _, _⟩) (v := ?_) rfl (by kernel_rfl) (by kernel_rfl) (by kernel_rfl) (fun _ _ _ h => h) (Or.inl ⟨by rfl, ?_⟩) ?_;rotate_left 1
  ·intro wq _;go_simp;(try with_reducible rfl)
  (try simp only [Act.put, List.setIfInBounds_toArray, List.set_cons_zero, List.set_cons_succ]);refine aa (i := 1) (oi := ⟨some 29, _, _, _, _, _⟩) (v := ?_) rfl (by kernel_rfl) (by kernel_rfl) (by kernel_rfl) (fun _ _ _ h => h) (Or.inl ⟨by rfl, ?_⟩) ?_;rotate_left 1
  ·intro wq _;go_simp;(try with_reducible rfl)
  (try simp only [Act.put, List.setIfInBounds_toArray, List.set_cons_zero, List.set_cons_succ]);refine aa (i := 2) (oi := ⟨some 30, _, _, _, _, _⟩) (v := ?_) rfl (by kernel_rfl) (by kernel_rfl) (by kernel_rfl) (fun _ _ _ h => h) (Or.inl ⟨by rfl, ?_⟩) ?_;rotate_left 1
  ·intro wq _;go_simp;(try with_reducible rfl)
  (try simp only [Act.put, List.setIfInBounds_toArray, List.set_cons_zero, List.set_cons_succ]);refine ai (i := 3) (oi := ⟨some 31, _, _, _, _, _⟩) (v := ?_) rfl (by kernel_rfl) (by kernel_rfl) (by kernel_rfl) (by kernel_rfl) (by kernel_rfl) (fun _ _ _ h => h) (Or.inl ⟨by rfl, ?_⟩) (by assumption) ?_;rotate_left 1
  ·intro wq bS;(try dsimp only at bS);go_simp;(try with_reducible rfl)
  (try simp only [Act.put, List.setIfInBounds_toArray, List.set_cons_zero, List.set_cons_succ]);refine aa (i := 4) (oi := ⟨some 32, _, _, _, _, _⟩) (v := ?_) rfl (by kernel_rfl) (by kernel_rfl) (by kernel_rfl) (fun _ _ _ h => h) (Or.inl ⟨by rfl, ?_⟩) ?_;rotate_left 1
  ·intro wq _;go_simp;(try with_reducible rfl)
  (try simp only [Act.put, List.setIfInBounds_toArray, List.set_cons_zero, List.set_cons_succ]);refine aa (i := 5) (oi := ⟨some 33, _, _, _, _, _⟩) (v := ?_) rfl (by kernel_rfl) (by kernel_rfl) (by kernel_rfl) (fun _ _ _ h => h) (Or.inl ⟨by rfl, ?_⟩) ?_;rotate_left 1
  ·intro wq _;go_simp;(try with_reducible rfl)
  (try simp only [Act.put, List.setIfInBounds_toArray, List.set_cons_zero, List.set_cons_succ]);refine aa (i := 6) (oi := ⟨some 34, _, _, _, _, _⟩) (v := ?_) rfl (by kernel_rfl) (by kernel_rfl) (by kernel_rfl) (fun _ _ _ h => h) (Or.inl ⟨by rfl, ?_⟩) ?_;rotate_left 1
  ·intro wq _;go_simp;(try with_reducible rfl)
  (try simp only [Act.put, List.setIfInBounds_toArray, List.set_cons_zero, List.set_cons_succ]);refine aa (i := 7) (oi := ⟨some 35, _, _, _, _, _⟩) (v := ?_) rfl (by kernel_rfl) (by kernel_rfl) (by kernel_rfl) (fun _ _ _ h => h) (Or.inl ⟨by rfl, ?_⟩) ?_;rotate_left 1
  ·intro wq _;go_simp;(try with_reducible rfl)
  (try simp only [Act.put, List.setIfInBounds_toArray, List.set_cons_zero, List.set_cons_succ]);refine ai (i := 8) (oi := ⟨some 36, _, _, _, _, _⟩) (v := ?_) rfl (by kernel_rfl) (by kernel_rfl) (by kernel_rfl) (by kernel_rfl) (by kernel_rfl) (fun _ _ _ h => h) (Or.inl ⟨by rfl, ?_⟩) (by assumption) ?_;rotate_left 1
  ·intro wq bS;(try dsimp only at bS);go_simp;(try with_reducible rfl)
  (try simp only [Act.put, List.setIfInBounds_toArray, List.set_cons_zero, List.set_cons_succ]);refine aa (i := 9) (oi := ⟨some 37, _, _, _, _, _⟩) (v := ?_) rfl (by kernel_rfl) (by kernel_rfl) (by kernel_rfl) (fun _ _ _ h => h) (Or.inl ⟨by rfl, ?_⟩) ?_;rotate_left 1
  ·intro wq _;go_simp;(try with_reducible rfl)
  (try simp only [Act.put, List.setIfInBounds_toArray, List.set_cons_zero, List.set_cons_succ]);refine ai (i := 10) (oi := ⟨some 38, _, _, _, _, _⟩) (v := ?_) rfl (by kernel_rfl) (by kernel_rfl) (by kernel_rfl) (by kernel_rfl) (by kernel_rfl) (fun _ _ _ h => h) (Or.inl ⟨by rfl, ?_⟩) (by assumption) ?_;rotate_left 1
  ·intro wq bS;(try dsimp only at bS);go_simp;(try with_reducible rfl)
  (try simp only [Act.put, List.setIfInBounds_toArray, List.set_cons_zero, List.set_cons_succ]);refine az (i := 11) (o := ⟨some 39, _, _, _, _, _⟩) (by kernel_rfl) rfl (by kernel_rfl) (fun K hK => ?_);go_simp;go_at_call 129;refine (iZ.out _).mono ?_;rintro e w6 Is;unfold l6 at Is;rw [HT.out] at Is;obtain ⟨⟨A6, n6, c6, rfl, QU, g9⟩, ck⟩ := Is;(try dsimp only);refine hK.out _ _ ?_;clear hK K;(try simp only [Act.put, List.setIfInBounds_toArray, List.set_cons_zero, List.set_cons_succ]);refine aa (i := 12) (oi := ⟨some 27, _, _, _, _, _⟩) (v := ?_) rfl (by kernel_rfl) (by kernel_rfl) (by kernel_rfl) (fun _ _ _ h => h) (Or.inl ⟨by rfl, ?_⟩) ?_;rotate_left 1
  ·intro wq _;go_simp;(try with_reducible rfl)
  (try simp only [Act.put, List.setIfInBounds_toArray, List.set_cons_zero, List.set_cons_succ]);refine aa (i := 13) (oi := ⟨some 40, _, _, _, _, _⟩) (v := ?_) rfl (by kernel_rfl) (by kernel_rfl) (by kernel_rfl) (fun _ _ _ h => h) (Or.inl ⟨by rfl, ?_⟩) ?_;rotate_left 1
  ·intro wq _;go_simp;(try with_reducible rfl)
  (try simp only [Act.put, List.setIfInBounds_toArray, List.set_cons_zero, List.set_cons_succ]);refine aa (i := 14) (oi := ⟨some 41, _, _, _, _, _⟩) (v := ?_) rfl (by kernel_rfl) (by kernel_rfl) (by kernel_rfl) (fun _ _ _ h => h) (Or.inl ⟨by rfl, ?_⟩) ?_;rotate_left 1
  ·intro wq _;go_simp;(try with_reducible rfl)
  (try simp only [Act.put, List.setIfInBounds_toArray, List.set_cons_zero, List.set_cons_succ]);refine aa (i := 15) (oi := ⟨some 4, _, _, _, _, _⟩) (v := ?_) rfl (by kernel_rfl) (by kernel_rfl) (by kernel_rfl) (fun _ _ _ h => h) (Or.inl ⟨by rfl, ?_⟩) ?_;rotate_left 1
  ·intro wq _;go_simp;(try with_reducible rfl)
  (try simp only [Act.put, List.setIfInBounds_toArray, List.set_cons_zero, List.set_cons_succ]);refine aa (i := 16) (oi := ⟨some 5, _, _, _, _, _⟩) (v := ?_) rfl (by kernel_rfl) (by kernel_rfl) (by kernel_rfl) (fun _ _ _ h => h) (Or.inl ⟨by rfl, ?_⟩) ?_;rotate_left 1
  ·intro wq _;go_simp;(try with_reducible rfl)
  (try simp only [Act.put, List.setIfInBounds_toArray, List.set_cons_zero, List.set_cons_succ]);refine aN (by kernel_rfl) ?_ _;generalize (if c = a then some ({ block := b, off := off } : Addr) else some { block := b, off := off + a }) = Z;have qh := Lib.hid ((eL.out.drewN 1).below ck);have fu := Lib.hid (bV.out.trans (aF.below C (Mn.out.trans (Below.mono ck (Nat.le_refl _)))));have TE := Lib.hid (QU.lift (X' := fun b => b ≠ C ∧ w.heap.size ≤ b) (fun b h => ⟨fun e => by have := eL.out.cX.lt; have h2 : w3.heap.size ≤ b := h; omega, Nat.le_trans bV.out.1 h⟩));clear ck QU;have HN := Lib.hid (eA w6 C _ n c L r 58 qh.out (by decide));go_simp;cases hn : aH L r 58 with
  | error e0 =>
   obtain ⟨x, p⟩ := e0;rw [hn] at HN;have oe := Lib.hid (iM.out.symm.trans (uA mR.out zk.out hn));clear hn;go_wp2_with fail;refine HN.out.mono ?_;rintro e w7 ⟨he, hb⟩;unfold aX at he;subst he;have er := Lib.hid (fu.out.trans hb);clear hb;go_wp2_with fail;rw [oe.out];exact ⟨rfl, rfl, er.out⟩
  | ok j2 =>
   rw [hn] at HN;have LP := Lib.hid hn;clear hn;go_wp2_with fail;refine HN.out.mono ?_;rintro e w7 ⟨rfl, hc, hb⟩;have qs := Lib.hid hc;have er := Lib.hid (fu.out.trans hb);have PE := Lib.hid (TE.out.keep (hb.keeps (X' := fun b => b ≠ C ∧ w.heap.size ≤ b) (fun b h => h.1) (fun b h _ => h)));clear hb hc;have Am := Lib.hid (eA w7 C _ n c L j2 93 qs.out (by decide));cases hn : aH L j2 93 with
   | error e0 =>
    obtain ⟨x, p⟩ := e0;rw [hn] at Am;have oe := Lib.hid (iM.out.symm.trans (uu mR.out zk.out LP.out hn));clear hn;go_wp2_with fail;refine Am.out.mono ?_;rintro e w8 ⟨he, hb⟩;unfold aX at he;subst he;have jG := Lib.hid (er.out.trans hb);clear hb;go_wp2_with fail;rw [oe.out];exact ⟨rfl, rfl, jG.out⟩
   | ok k2 =>
    rw [hn] at Am;have oe := Lib.hid (iM.out.symm.trans (xQ mR.out zk.out LP.out hn));clear hn;go_wp2_with fail;refine Am.out.mono ?_;rintro e w8 ⟨rfl, hc, hb⟩;have Fw := Lib.hid hc;have jG := Lib.hid (er.out.trans hb);have KU := Lib.hid (PE.out.keep (hb.keeps (X' := fun b => w.heap.size ≤ b) (fun b h => h.1) (fun b h _ => h.2)));clear hb hc;go_wp2_with fail;go_ret;rw [oe.out];exact ⟨⟨A6, n6, c6, rfl, KU.out, g9⟩, Fw.out, jG.out⟩
theorem au.apart {w : World} {C G : Nat} {A : Option Addr} {n c : Nat} {L : List Int} {i : Nat} {t : TypeId} {v : Value} (h : au w C A n c L i) (hG : aM w G t #[v]) (hv : ∀ x, v ≠ .int .i32 x) : di w (fun b => b ≠ C ∧ b ≠ G) 1 A n (ax L) := by
 refine ⟨h.row.1, fun hn => ?_⟩;obtain ⟨b, off, e, hb, hl, hc⟩ := h.row.2 hn;refine ⟨b, off, e, ⟨hb, fun he => ?_⟩, hl, hc⟩;subst he;have hlen := h.len;obtain ⟨x, hx⟩ : ∃ x, L[0]? = some x := ⟨_, List.getElem?_eq_getElem (by omega)⟩;have h1 := hc 0 (.int .i32 x) (by rw [bO, hx]; rfl);rw [hG.cell] at h1;rcases off with _ | off
 ·simp at h1;exact hv x h1
 simp at h1
theorem au.set {w : World} {C G : Nat} {A : Option Addr} {n c : Nat} {L : List Int} {i : Nat} {t : TypeId} {v : Value} (h : au w C A n c L i) (hG : aM w G t #[v]) (hv : ∀ x, v ≠ .int .i32 x) (hne : C ≠ G) (u : Value) : au (w.setCell ⟨G, 0, none⟩ u) C A n c L i := by
 have hk : aF w G (w.setCell ⟨G, 0, none⟩ u) := aF.set _ _ _ _;exact ⟨h.cX.same (hk.2.2.2.2 C h.cX.lt hne), (h.apart hG hv).keep (hk.keeps (fun b h => h.2) (fun b h _ => h.1)), h.size, h.le, h.cap⟩
structure dW (w : World) (C P G : Nat) (A : Option Addr) (n c : Nat) (L : List Int) (j : Nat) (s : ag) (wr : World) : Prop where
  cur : au wr C A n c L j
  box : aM wr P 60 #[.pointer (some ⟨C, 0, none⟩)]
  set : ∃ B m d, aM wr G 22 #[.slice B m d] ∧ di wr (fun b => b ≠ C ∧ b ≠ P ∧ b ≠ G ∧ w.heap.size ≤ b) 2 B m (ak s) ∧ m ≤ d
  right : aK s
  but : aF w C wr
  lo : C < w.heap.size ∧ w.heap.size ≤ P ∧ w.heap.size ≤ G ∧ P ≠ G
section
variable {w wr w' : World} {C P G : Nat} {A : Option Addr} {n c : Nat} {L : List Int} {j : Nat} {s : ag}
theorem dW.bJ (h : dW w C P G A n c L j s wr) (hb : aF wr C w') {k : Nat} (hc : au w' C A n c L k) : dW w C P G A n c L k s w' := by
 obtain ⟨B, m, d, h1, h2, h3⟩ := h.set;obtain ⟨l1, l2, l3, l4⟩ := h.lo;exact ⟨hc, (hb.2.2.2.2 P h.box.lt (by omega)).trans h.box, ⟨B, m, d, (hb.2.2.2.2 G h1.lt (by omega)).trans h1, h2.keep (hb.keeps (fun b h => h.1) (fun b h _ => h)), h3⟩, h.right, h.but.trans hb, h.lo⟩
theorem dW.below (h : dW w C P G A n c L j s wr) (hb : Below wr.heap.size wr w') : dW w C P G A n c L j s w' := h.bJ (aF.below C hb) (h.cur.below hb)
theorem dW.drew (h : dW w C P G A n c L j s wr) : dW w C P G A n c L j s wr.drew := h.below ((Below.refl _ _).drew)
theorem dW.put (h : dW w C P G A n c L j s wr) {t : ag} {B : Option Addr} {m d : Nat} (hr : di wr (fun b => b ≠ C ∧ b ≠ P ∧ b ≠ G ∧ w.heap.size ≤ b) 2 B m (ak t)) (hd : m ≤ d) (ht : aK t) :
    dW w C P G A n c L j t (wr.setCell ⟨G, 0, none⟩ (.slice B m d)) := by
 obtain ⟨B0, m0, d0, h1, h2, h3⟩ := h.set;obtain ⟨l1, l2, l3, l4⟩ := h.lo;have hk : aF wr G (wr.setCell ⟨G, 0, none⟩ (.slice B m d)) := aF.set _ _ _ _;refine ⟨h.cur.set h1 (fun x e => by cases e) (by omega) _, (hk.2.2.2.2 P h.box.lt l4).trans h.box, ⟨B, m, d, h1.put 0 _, hr.keep (hk.keeps (fun b h => h.2.2.1) (fun b h _ => h)), hd⟩, ht, ?_, h.lo⟩;exact ⟨Nat.le_trans h.but.1 hk.1, hk.2.1.trans h.but.2.1, hk.2.2.1.trans h.but.2.2.1, hk.2.2.2.1.trans h.but.2.2.2.1, fun b hb hne => (hk.2.2.2.2 b (Nat.lt_of_lt_of_le hb h.but.1) (by omega)).trans (h.but.2.2.2.2 b hb hne)⟩
end
theorem dW.arg {w wr : World} {C P G : Nat} {A : Option Addr} {n c : Nat} {L : List Int} {j : Nat} {s : ag} (h : dW w C P G A n c L j s wr) {B : Option Addr} {m d : Nat} (hb : aM wr G 22 #[.slice B m d]) : bk wr B m d s := by
 obtain ⟨B0, m0, d0, h1, h2, h3⟩ := h.set;have e : #[Value.slice B m d] = #[.slice B0 m0 d0] := by
  unfold aM at hb h1;rw [hb] at h1;injection h1 with h1;injection h1
 have e2 : Value.slice B m d = .slice B0 m0 d0 := (by simpa using e);cases e2;exact ⟨h.right, h2.of, h3⟩
theorem dW.part {w wx w1 : World} {C P G : Nat} {A : Option Addr} {n c : Nat} {L : List Int} {j j2 : Nat} {s t : ag} {e : Ending} (h : dW w C P G A n c L j s wx) (ht : aK t) (hp : dJ wx C A n c L (.ok (t, j2)) e w1) :
    ∃ B m d, e = .returned (.slice B m d) ∧ dW w C P G A n c L j2 s w1 ∧ bk w1 B m d t ∧ aF wx C w1 := by
 obtain ⟨⟨B, m, d, rfl, hr, hd⟩, hc, hb⟩ := hp;exact ⟨B, m, d, rfl, h.bJ hb hc, ⟨ht, hr.of, hd⟩, hb⟩
theorem dW.jX {w wx w1 : World} {C P G : Nat} {A : Option Addr} {n c : Nat} {L : List Int} {j : Nat} {s : ag} {cs : Array Value} {t : TypeId} (h : dW w C P G A n c L j s wx) (hb : aF wx C w1) (hG : aM wx G t cs) : aM w1 G t cs :=
  (hb.2.2.2.2 G hG.lt (by have := h.lo; omega)).trans hG
theorem dW.ey {w wx : World} {C P G : Nat} {A : Option Addr} {n c : Nat} {L : List Int} {j : Nat} {s : ag} (h : dW w C P G A n c L j s wx) : wx.cell? ⟨P, 0, none⟩ = some (.pointer (some ⟨C, 0, none⟩)) := h.box.cell 0
theorem dW.op {w w1 w2 : World} {C P G : Nat} {A : Option Addr} {n c : Nat} {L : List Int} {j : Nat} {s : ag} {r : ag × Int} {e : Ending} (h : dW w C P G A n c L j s w1) (hp : bC w1 r e w2) :
    ∃ B m d, e = .returned (.tuple #[.slice B m d, .int .i64 r.2]) ∧ dW w C P G A n c L j s w2 ∧ di w2 (fun b => b ≠ C ∧ b ≠ P ∧ b ≠ G ∧ w.heap.size ≤ b) 2 B m (ak r.1) ∧ m ≤ d ∧ Below w1.heap.size w1 w2 := by
 obtain ⟨B, m, d, rfl, h1, _, h2, h3⟩ := hp;refine ⟨B, m, d, rfl, h.below h3, h1.lift (fun b hb => ?_), h2, h3⟩;obtain ⟨B0, m0, d0, g1, _⟩ := h.set;have l1 := h.cur.cX.lt;have l2 := h.box.lt;have l3 := g1.lt;have l4 := h.but.1;exact ⟨by omega, by omega, by omega, by omega⟩
theorem lY (B : Option Addr) (m d P G : Nat) (v : Value) (w : World) (hG : aM w G 22 #[v]) :
    Calls Tryz.prog 76 (#[.slice B m d, .int .i64 0] ++ #[.pointer (some ⟨P, 0, none⟩), .pointer (some ⟨G, 0, none⟩)]) w fun e w' => e = .returned (.tuple #[]) ∧ w' = w.setCell ⟨G, 0, none⟩ (.slice B m d) := by
 have c0 := hG.cell 0;have f0 := hG.frozen 0;clear hG;go_enter Tryz.func76, Tryz.ntmps76;go_wp2_with fail;go_end0;exact ⟨rfl, rfl⟩
theorem ki (B : Option Addr) (m d C P G : Nat) (A : Option Addr) (n c : Nat) (L : List Int) (j : Nat) (x : Int) (w : World) (hx : x ≠ 0) (hP : aM w P 60 #[.pointer (some ⟨C, 0, none⟩)]) (hC : au w C A n c L j) :
    Calls Tryz.prog 76 (#[.slice B m d, .int .i64 x] ++ #[.pointer (some ⟨P, 0, none⟩), .pointer (some ⟨G, 0, none⟩)]) w fun e w' => e = aX x j ∧ w' = w := by
 have c0 := hP.cell 0;have d0 := hC.cX.cell 1;have I4 : (x != 0) = true := (by simp; exact hx);have HF := Lib.hid (fun (W : World) => bW x j W);clear hP hC hx;go_enter Tryz.func76, Tryz.ntmps76;go_wp2_with fail;refine (HF.out _).mono ?_;rintro e w3 ⟨rfl, rfl⟩;go_wp2_with fail;exact ⟨rfl, rfl, rfl⟩
end Go.Proofs.YthnhbcohfoodlaaGreatDoor
