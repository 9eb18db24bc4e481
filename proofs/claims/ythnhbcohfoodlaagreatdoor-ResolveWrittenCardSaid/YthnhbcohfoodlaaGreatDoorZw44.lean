/- RdSide + SynRead + RulesNum -/
import Derived.Test.YthnhbcohfoodlaaGreatDoorZw43
import Derived.Test.YthnhbcohfoodlaaGreatDoorZw42
import Derived.Test.YthnhbcohfoodlaaGreatDoorZw36
import Derived.Test.YthnhbcohfoodlaaGreatDoorZw5
import Derived.Test.YthnhbcohfoodlaaGreatDoorZw14
set_option maxHeartbeats 12800000
set_option maxRecDepth 100000
namespace Go.Proofs.YthnhbcohfoodlaaGreatDoor
open Go.RowKit
theorem wJ {L : List Int} {i a0 a1 : Nat} {e : Int × Nat} (h0 : ai L i = a0) (h1 : a1 = if pk L a0 = 94 then a0 + 1 else a0) (h : cJ L (decide (pk L a0 = 94)) a1 = .error e) : cH L i = .error e := by unfold cH; rw [h0, ← h1, h]
theorem wL {L : List Int} {i a0 a1 j : Nat} {b s : List ak} {c : Int} {e : Int × Nat} (h0 : ai L i = a0) (h1 : a1 = if pk L a0 = 94 then a0 + 1 else a0) (h : cJ L (decide (pk L a0 = 94)) a1 = .ok ((b, s, c), j)) (ht : dh L j = .error e) : cH L i = .error e := by unfold cH; rw [h0, ← h1, h]; simp only; rw [ht]
theorem CN {L : List Int} {i a0 a1 j k : Nat} {b s a : List ak} {c : Int} {fin : Bool} (h0 : ai L i = a0) (h1 : a1 = if pk L a0 = 94 then a0 + 1 else a0) (h : cJ L (decide (pk L a0 = 94)) a1 = .ok ((b, s, c), j)) (ht : dh L j = .ok ((a, fin), k)) : cH L i = .ok (⟨decide (pk L a0 = 94), fin, b, s, a, c⟩, ai L k) := by unfold cH; rw [h0, ← h1, h]; simp only; rw [ht]
theorem Gm {L : List Int} {st : Bool} {a j : Nat} {l : List ak} {c : Int} (h : bI L a = .ok ((l, c), j)) (h1 : pk L j = 123) (h2 : 0 ≤ c) : cJ L st a = .error (8, a) := by unfold cJ; rw [h]; simp only; rw [if_pos h1, if_pos h2]
theorem Dr {L : List Int} {st : Bool} {a j : Nat} {l : List ak} {c : Int} {e : Int × Nat} (h : bI L a = .ok ((l, c), j)) (h1 : pk L j = 123) (h2 : ¬ 0 ≤ c) (h3 : bI L (j + 1) = .error e) : cJ L st a = .error e := by unfold cJ; rw [h]; simp only; rw [if_pos h1, if_neg h2, h3]
theorem JS {L : List Int} {st : Bool} {a j k : Nat} {l l2 : List ak} {c c2 : Int} (h : bI L a = .ok ((l, c), j)) (h1 : pk L j = 123) (h2 : ¬ 0 ≤ c) (h3 : bI L (j + 1) = .ok ((l2, c2), k)) : cJ L st a = .ok ((l, l2, c2), k) := by unfold cJ; rw [h]; simp only; rw [if_pos h1, if_neg h2, h3]
theorem Fu {L : List Int} {a j : Nat} {l : List ak} {c : Int} (h : bI L a = .ok ((l, c), j)) (h1 : pk L j ≠ 123) : cJ L true a = .error (2, j) := by unfold cJ; rw [h]; simp only; rw [if_neg h1]; rfl
theorem JF {L : List Int} {a j : Nat} {l : List ak} {c : Int} (h : bI L a = .ok ((l, c), j)) (h1 : pk L j ≠ 123) : cJ L false a = .ok (([], l, c), j) := by unfold cJ; rw [h]; simp only; rw [if_neg h1]; rfl
theorem DK {L : List Int} {j : Nat} {e : Int × Nat} (h1 : pk L j = 125) (h : bI L (j + 1) = .error e) : dh L j = .error e := by unfold dh; rw [if_pos h1, h]
theorem Fm {L : List Int} {j k : Nat} {l : List ak} {c : Int} (h1 : pk L j = 125) (h : bI L (j + 1) = .ok ((l, c), k)) : dh L j = (if 0 ≤ c then .error (8, j + 1) else if pk L k = 36 then .ok ((l, true), k + 1) else .ok ((l, false), k)) := by unfold dh; rw [if_pos h1, h]
theorem KU {L : List Int} {j : Nat} (h1 : pk L j ≠ 125) : dh L j = .ok (([], false), j) := by unfold dh; rw [if_neg h1]
theorem GW (w : World) (C : Nat) (A : Option Addr) (n c : Nat) (L : List Int) (i : Nat) (h : av w C A n c L i) : vS w C A n c L ((w.alloc (.cells #[.bool false, .bool false, .slice none 0 0, .slice none 0 0, .slice none 0 0, .int .i64 0] 96)).alloc (.cells #[.bool false, .bool false, .slice none 0 0, .slice none 0 0, .slice none 0 0, .int .i64 (-1)] 96)) i #[.bool false, .bool false, .slice none 0 0, .slice none 0 0, .slice none 0 0, .int .i64 (-1)] := by
 have hb : Below w.heap.size w ((w.alloc (.cells #[.bool false, .bool false, .slice none 0 0, .slice none 0 0, .slice none 0 0, .int .i64 0] 96)).alloc (.cells #[.bool false, .bool false, .slice none 0 0, .slice none 0 0, .slice none 0 0, .int .i64 (-1)] 96)) := ((Below.refl _ _).alloc (Nat.le_refl _) _).alloc (by simp) _;refine ⟨(gT.start h).below hb, bK.below C hb, ?_, (au.new w _ _).alloc _⟩;have := au.new (w.alloc (.cells #[.bool false, .bool false, .slice none 0 0, .slice none 0 0, .slice none 0 0, .int .i64 0] 96)) 96 #[.bool false, .bool false, .slice none 0 0, .slice none 0 0, .slice none 0 0, .int .i64 (-1)];simpa using this
theorem Lh {w wr : World} {C : Nat} {A : Option Addr} {n c : Nat} {L : List Int} {j : Nat} {cs : Array Value} (h : vS w C A n c L wr j cs) (v0 v1 v2 v3 v4 v5 : Value) :
    av ((((((wr.setCell ⟨w.heap.size, 0, none⟩ v0).setCell ⟨w.heap.size, 1, none⟩ v1).setCell ⟨w.heap.size, 2, none⟩ v2).setCell ⟨w.heap.size, 3, none⟩ v3).setCell ⟨w.heap.size, 4, none⟩ v4).setCell ⟨w.heap.size, 5, none⟩ v5) C A n c L j ∧
    bK w C ((((((wr.setCell ⟨w.heap.size, 0, none⟩ v0).setCell ⟨w.heap.size, 1, none⟩ v1).setCell ⟨w.heap.size, 2, none⟩ v2).setCell ⟨w.heap.size, 3, none⟩ v3).setCell ⟨w.heap.size, 4, none⟩ v4).setCell ⟨w.heap.size, 5, none⟩ v5) ∧
    au ((((((wr.setCell ⟨w.heap.size, 0, none⟩ v0).setCell ⟨w.heap.size, 1, none⟩ v1).setCell ⟨w.heap.size, 2, none⟩ v2).setCell ⟨w.heap.size, 3, none⟩ v3).setCell ⟨w.heap.size, 4, none⟩ v4).setCell ⟨w.heap.size, 5, none⟩ v5) w.heap.size 96 #[v0, v1, v2, v3, v4, v5] ∧
    ag wr (fun b => w.heap.size + 2 ≤ b ∧ b ≠ C) ((((((wr.setCell ⟨w.heap.size, 0, none⟩ v0).setCell ⟨w.heap.size, 1, none⟩ v1).setCell ⟨w.heap.size, 2, none⟩ v2).setCell ⟨w.heap.size, 3, none⟩ v3).setCell ⟨w.heap.size, 4, none⟩ v4).setCell ⟨w.heap.size, 5, none⟩ v5) (fun b => w.heap.size + 2 ≤ b ∧ b ≠ C) := by
 have hz := h.but.1;have one : ∀ (W : World) (k : Nat) (v : Value), Below w.heap.size wr W → w.heap.size ≤ W.heap.size → Below w.heap.size wr (W.setCell ⟨w.heap.size, k, none⟩ v) := fun W k v hb hs => hb.trans ((bK.set W w.heap.size k v).to hs (Nat.le_refl _));have kp : ∀ (W : World) (k : Nat) (v : Value), ag W (fun b => w.heap.size + 2 ≤ b ∧ b ≠ C) (W.setCell ⟨w.heap.size, k, none⟩ v) (fun b => w.heap.size + 2 ≤ b ∧ b ≠ C) := fun W k v => ag.setCell v (fun b hb => by have := hb.1; show b ≠ w.heap.size; omega) (fun _ h _ => h);have b0 := one wr 0 v0 (Below.refl _ _) hz;have b1 := one _ 1 v1 b0 (by simpa using hz);have b2 := one _ 2 v2 b1 (by simpa using hz);have b3 := one _ 3 v3 b2 (by simpa using hz);have b4 := one _ 4 v4 b3 (by simpa using hz);have b5 := one _ 5 v5 b4 (by simpa using hz);have r0 := h.res.put 0 v0;have r1 := r0.put 1 v1;have r2 := r1.put 2 v2;have r3 := r2.put 3 v3;have r4 := r3.put 4 v4;have r5 := r4.put 5 v5;exact ⟨(h.cur.below b5).cur, eW h.but b5, r5, (((((kp _ 0 v0).trans (kp _ 1 v1)).trans (kp _ 2 v2)).trans (kp _ 3 v3)).trans (kp _ 4 v4)).trans (kp _ 5 v5)⟩
theorem Ld (w : World) (C : Nat) (A : Option Addr) (n c : Nat) (L : List Int) (i : Nat) (h : av w C A n c L i) (hL : gi L) (hn : n ≤ 100000) :
    Calls Tryz.prog 100 #[.pointer (some ⟨C, 0, none⟩)] w (NM w C A n c L (cH L i)) := by
 have hl := h.len;have HL := Lib.hid hL;have fP := Lib.hid (fun (W : World) (m : Nat) (h : av W C A n c L m) => cG W C A n c L m h);have LR := Lib.hid (fun (W : World) (m : Nat) (h : av W C A n c L m) => IM W C A n c L m h hL hn);have qR := Lib.hid (fun (W : World) (m : Nat) (h : av W C A n c L m) => i9 W C A n c L m h);have hi := h.le;have zz := Lib.hid (GW w C A n c L i h);obtain ⟨R, hR⟩ : ∃ R, cH L i = R := ⟨_, rfl⟩;rw [hR];obtain ⟨a0, ha0⟩ : ∃ a0, ai L i = a0 := ⟨_, rfl⟩;have SW := Lib.hid ha0;have HR := Lib.hid hR;clear h hL hR ha0;go_enter Tryz.func100, Tryz.ntmps100;go_wp2_with fail;refine (qR.out _ i zz.out.cur.cur).mono ?_;rintro e w1 ⟨rfl, fO, bt⟩;rw [SW.out] at fO;have iI := Lib.hid (zz.out.step fO bt);clear fO bt;go_upto_if 14 with (go_at_call 57; refine (fP.out _ a0 iI.out.cur.cur).mono ?_; rintro e w2 ⟨rfl, jj, bn⟩);have jk := Lib.hid (iI.out.step jj bn);clear jj bn;go_cut [] (fun wx => ∃ a1 : Nat, a1 = (if pk L a0 = 94 then a0 + 1 else a0) ∧ vS w C A n c L wx a1 #[.bool (decide (pk L a0 = 94)), .bool false, .slice none 0 0, .slice none 0 0, .slice none 0 0, .int .i64 (-1)]);case first =>
  by_cases kG : pk L a0 = 94
  ·obtain ⟨d1, d2, d3, d4⟩ := jk.out.cur.cur.step (by rw [← hl]; exact bA (by omega));have jl := Lib.hid (jk.out.step d3 d4);have z0 := jl.out.box.frozen 0;have z1 := jl.out.box.cell 0;have gE := Lib.hid (jl.out.put 0 (.bool true));have Qq : IntKind.i64.wrap ((a0 : Int) + 1) = (a0 : Int) + 1 := wrap_small _ (by have := jk.out.cur.cur.le; omega) (by have := jk.out.cur.cur.le; omega);have Xu := Lib.hid kG;rw [kG];clear d3 d4 kG;go_wp2_with fail;go_meet;refine ⟨a0 + 1, by rw [if_pos Xu.out], ?_⟩;rw [show decide (pk L a0 = 94) = true from decide_eq_true Xu.out];exact gE.out
  have q94 : (pk L a0 == 94) = false := (by rw [beq_eq_false_iff_ne]; exact kG);go_wp2_with fail;go_meet;refine ⟨a0, by rw [if_neg kG], ?_⟩;rw [show decide (pk L a0 = 94) = false from decide_eq_false kG];exact jk.out
 obtain ⟨a1, mC, hf⟩ := hcut;have oh := Lib.hid mC;have M4 := Lib.hid hf;have Zj := hf.cur.cur.le;clear mC hf;obtain ⟨st, hst⟩ : ∃ st, decide (pk L a0 = 94) = st := ⟨_, rfl⟩;have hM := Lib.hid hst;rw [hst] at M4;have c1 := M4.out.cur.cur.ey.cell 1;have Sa := Lib.hid (fun (e : Int × Nat) (he : cJ L st a1 = .error e) => show R = .error e from HR.out.symm.trans (wJ SW.out oh.out (by rw [hM.out]; exact he)));have XC := Lib.hid (fun (b s : List ak) (c : Int) (j : Nat) (e : Int × Nat) (he : cJ L st a1 = .ok ((b, s, c), j)) (ht : dh L j = .error e) => show R = .error e from HR.out.symm.trans (wL SW.out oh.out (by rw [hM.out]; exact he) ht));have JW := Lib.hid (fun (b s a : List ak) (c : Int) (fin : Bool) (j k : Nat) (he : cJ L st a1 = .ok ((b, s, c), j)) (ht : dh L j = .ok ((a, fin), k)) => show R = .ok (⟨st, fin, b, s, a, c⟩, ai L k) by have := HR.out.symm.trans (CN SW.out oh.out (by rw [hM.out]; exact he) ht); rwa [hM.out] at this);clear hst;have Sk := Lib.hid (LR.out _ a1 M4.out.cur.cur);cases hit : bI L a1 with
 | error e0 =>
  obtain ⟨y, p⟩ := e0;have gO := Lib.hid (Sa.out (y, p) (by unfold cJ; rw [hit]));rw [hit] at Sk;clear hit;go_wp2_with fail;refine Sk.out.mono ?_;rintro e w3 ⟨he, aJ⟩;unfold aZ at he;subst he;have dQ := Lib.hid (M4.out.but.trans aJ);clear aJ;go_wp2_with fail;rw [gO.out];exact ⟨rfl, rfl, dQ.out⟩
 | ok q =>
  obtain ⟨⟨l, cu⟩, j1⟩ := q;have Q5 := Lib.hid hit;have Va := oK _ _ _ _ (Nat.zero_le _) (by decide) (by decide) (show bJ L (L.length + 1) a1 [] (-1) = .ok ((l, cu), j1) from hit);rw [hit] at Sk;clear hit;go_wp2_with fail;refine Sk.out.mono ?_;rintro e w3 ⟨⟨v, rfl, hown, h20⟩, kJ, aJ⟩;have jl := Lib.hid (M4.out.step kJ aJ);have OJ := M4.out.box.lt;have SE := Lib.hid (cP.of (QC := w.heap.size + 2) hown h20 OJ (by have := M4.out.cur.lt; omega));obtain ⟨Av, nv, cv, rfl, _⟩ := SE.out.form;clear hown kJ aJ c1;go_upto_if 39 with (go_at_call 57; refine (fP.out _ j1 jl.out.cur.cur).mono ?_; rintro e w4 ⟨rfl, ld, hb4⟩);have gE := Lib.hid (jl.out.step ld hb4);have Ki := Lib.hid (SE.out.step hb4);clear ld hb4;have x0 : w4.cell? ⟨w.heap.size + 1, 0, none⟩ = some (.bool st) := gE.out.box.cell 0;go_cut [5, 6] (fun v5 v6 wx => ∃ (b s : List ak) (cc : Int) (j : Nat) (ub : Value), cJ L st a1 = .ok ((b, s, cc), j) ∧ -1 ≤ cc ∧ cc ≤ 20 ∧ v6 = .int .i64 cc ∧ cP wx (fun b => w.heap.size + 2 ≤ b ∧ b ≠ C) v5 s ∧ cP wx (fun b => w.heap.size + 2 ≤ b ∧ b ≠ C) ub b ∧ vS w C A n c L wx j #[.bool st, .bool false, ub, .slice none 0 0, .slice none 0 0, .int .i64 (-1)]);case first =>
   by_cases nS : pk L j1 = 123
   ·have hlt : j1 < n := (by rw [← hl]; exact bA (by omega));have OY := Lib.hid nS;rw [nS];by_cases hc : 0 ≤ cu
    ·have gO := Lib.hid (Sa.out (8, a1) (Gm Q5.out nS hc));have hg : decide ((0 : Int) ≤ cu) = true := decide_eq_true hc;clear nS;go_wp2_with fail;refine (bX 8 a1 _).mono ?_;rintro e w5 ⟨rfl, rfl⟩;go_wp2_with fail;rw [gO.out];exact ⟨rfl, rfl, gE.out.but⟩
    have hg : decide ((0 : Int) ≤ cu) = false := decide_eq_false hc;obtain ⟨d1, d2, d3, d4⟩ := gE.out.cur.cur.step hlt;have lP := Lib.hid (gE.out.step d3 d4);have Nn := Lib.hid (Ki.out.step d4);have Qq : IntKind.i64.wrap ((j1 : Int) + 1) = (j1 : Int) + 1 := wrap_small _ (by omega) (by omega);have z2 := lP.out.box.frozen 2;have y2 := lP.out.box.cell 2;have pz := Lib.hid (lP.out.put 2 (.slice Av nv cv));have ZG := Lib.hid (Nn.out.put (k := 2) (x := .slice Av nv cv));have So := Lib.hid (LR.out _ (j1 + 1) pz.out.cur.cur);clear d3 d4 nS x0;cases oE : bI L (j1 + 1) with
    | error e0 =>
     obtain ⟨y, p⟩ := e0;have gO := Lib.hid (Sa.out (y, p) (Dr Q5.out OY.out hc oE));rw [oE] at So;clear oE;go_wp2_with fail;refine So.out.mono ?_;rintro e w7 ⟨he, iS⟩;unfold aZ at he;subst he;have qC := Lib.hid (pz.out.but.trans iS);clear iS;go_wp2_with fail;rw [gO.out];exact ⟨rfl, rfl, qC.out⟩
    | ok q =>
     obtain ⟨⟨l2, c2⟩, j2⟩ := q;have GK := Lib.hid (show cJ L st a1 = .ok ((l, l2, c2), j2) from JS Q5.out OY.out hc oE);have jj := oK _ _ _ _ (Nat.zero_le _) (by decide) (by decide) (show bJ L (L.length + 1) (j1 + 1) [] (-1) = .ok ((l2, c2), j2) from oE);rw [oE] at So;clear oE;go_wp2_with fail;refine So.out.mono ?_;rintro e w7 ⟨⟨v7, rfl, L7, h27⟩, qp, iS⟩;have sV := Lib.hid (pz.out.step qp iS);have ZE := Lib.hid (ZG.out.step iS);have S9 := pz.out.box.lt;have Sq := Lib.hid (cP.of (QC := w.heap.size + 2) L7 h27 S9 (by have := pz.out.cur.lt; have := pz.out.but.1; omega));obtain ⟨A7, n7, c7, rfl, _⟩ := Sq.out.form;clear L7 qp iS;go_wp2_with fail;go_meet;exact ⟨l, l2, c2, j2, _, GK.out, jj.1, jj.2, rfl, Sq.out, ZE.out, sV.out⟩
   have YB : (pk L j1 == 123) = false := (by rw [beq_eq_false_iff_ne]; exact nS);cases st with
   | true =>
    have gO := Lib.hid (Sa.out (2, j1) (Fu Q5.out nS));have y1 := gE.out.cur.cur.ey.cell 1;go_wp2_with fail;refine (bX 2 j1 _).mono ?_;rintro e w5 ⟨rfl, rfl⟩;go_wp2_with fail;rw [gO.out];exact ⟨rfl, rfl, gE.out.but⟩
   | false =>
    have GK := Lib.hid (show cJ L false a1 = .ok (([], l, cu), j1) from JF Q5.out nS);go_wp2_with fail;go_meet;exact ⟨[], l, cu, j1, _, GK.out, Va.1, Va.2, rfl, Ki.out, cP.nil _ _, gE.out⟩
  obtain ⟨b, ss, cc, j, ub, Yl, hc0, fO, rfl, Es, OK, hf⟩ := hcut;obtain ⟨As, ns, cs, rfl, _⟩ := Es.form;have V3 := Lib.hid Yl;have z3 := hf.box.frozen 3;have z5 := hf.box.frozen 5;have y3 := hf.box.cell 3;have y5 := hf.box.cell 5;have lP := Lib.hid ((hf.put 3 (.slice As ns cs)).put 5 (.int .i64 cc));have Oo := Lib.hid ((Es.put (k := 3) (x := .slice As ns cs)).put (k := 5) (x := .int .i64 cc));have SO := Lib.hid ((OK.put (k := 3) (x := .slice As ns cs)).put (k := 5) (x := .int .i64 cc));clear Es OK hf Yl x0;go_upto_if 76 with (go_at_call 57; refine (fP.out _ j lP.out.cur.cur).mono ?_; rintro e w6 ⟨rfl, zO, fE⟩);have pz := Lib.hid (lP.out.step zO fE);have Wh := Lib.hid (Oo.out.step fE);have Wl := Lib.hid (SO.out.step fE);clear zO fE z3 z5 y3 y5;go_cut [] (fun wx => ∃ (a : List ak) (fin : Bool) (k : Nat) (ua : Value), dh L j = .ok ((a, fin), k) ∧ cP wx (fun b => w.heap.size + 2 ≤ b ∧ b ≠ C) ua a ∧ cP wx (fun b => w.heap.size + 2 ≤ b ∧ b ≠ C) (.slice As ns cs) ss ∧ cP wx (fun b => w.heap.size + 2 ≤ b ∧ b ≠ C) ub b ∧ vS w C A n c L wx k #[.bool st, .bool fin, ub, .slice As ns cs, ua, .int .i64 cc]);case first =>
   by_cases vl : pk L j = 125
   ·have hlt : j < n := (by rw [← hl]; exact bA (by omega));have Ql := Lib.hid vl;rw [vl];obtain ⟨d1, d2, d3, d4⟩ := pz.out.cur.cur.step hlt;have sV := Lib.hid (pz.out.step d3 d4);have HS7 := Lib.hid (Wh.out.step d4);have Sq := Lib.hid (Wl.out.step d4);have Qq : IntKind.i64.wrap ((j : Int) + 1) = (j : Int) + 1 := wrap_small _ (by omega) (by omega);have Lk := Lib.hid (LR.out _ (j + 1) sV.out.cur.cur);have yc := sV.out.cur.cur.ey.cell 1;clear d3 d4 vl;cases wC : bI L (j + 1) with
    | error e0 =>
     obtain ⟨y, p⟩ := e0;have gO := Lib.hid (XC.out b ss cc j (y, p) V3.out (DK Ql.out wC));rw [wC] at Lk;clear wC;go_wp2_with fail;refine Lk.out.mono ?_;rintro e w8 ⟨he, iC⟩;unfold aZ at he;subst he;have Ep := Lib.hid (sV.out.but.trans iC);clear iC;go_wp2_with fail;rw [gO.out];exact ⟨rfl, rfl, Ep.out⟩
    | ok q =>
     obtain ⟨⟨l3, c3⟩, k⟩ := q;have Oa := Lib.hid (show dh L j = (if 0 ≤ c3 then .error (8, j + 1) else if pk L k = 36 then .ok ((l3, true), k + 1) else .ok ((l3, false), k)) from Fm Ql.out wC);rw [wC] at Lk;clear wC;go_wp2_with fail;refine Lk.out.mono ?_;rintro e w8 ⟨⟨v8, rfl, fK, h28⟩, En, iC⟩;have wu := Lib.hid (sV.out.step En iC);have OG := Lib.hid (HS7.out.step iC);have OI := Lib.hid (Sq.out.step iC);have Tl := sV.out.box.lt;have XW := Lib.hid (cP.of (QC := w.heap.size + 2) fK h28 Tl (by have := sV.out.cur.lt; have := sV.out.but.1; omega));obtain ⟨A8, n8, c8, rfl, _⟩ := XW.out.form;have z4 := wu.out.box.frozen 4;have y4 := wu.out.box.cell 4;have qd := Lib.hid (wu.out.put 4 (.slice A8 n8 c8));have Sy := Lib.hid (OG.out.put (k := 4) (x := .slice A8 n8 c8));have HU9 := Lib.hid (OI.out.put (k := 4) (x := .slice A8 n8 c8));have YU := Lib.hid (XW.out.put (k := 4) (x := .slice A8 n8 c8));clear fK En iC;by_cases hc : 0 ≤ c3
     ·have gO := Lib.hid (XC.out b ss cc j (8, j + 1) V3.out (by rw [Oa.out, if_pos hc]));have hg : decide ((0 : Int) ≤ c3) = true := decide_eq_true hc;have OC := Lib.hid (show ((j + 1 : Nat) : Int) = (j : Int) + 1 by omega);go_wp2_with fail;refine (bX 8 ((j : Int) + 1) _).mono ?_;rintro e w9 ⟨rfl, rfl⟩;go_wp2_with fail;rw [gO.out];exact ⟨rfl, rfl, qd.out.but⟩
     have hg : decide ((0 : Int) ≤ c3) = false := decide_eq_false hc;go_wp2_with fail;refine (fP.out _ k qd.out.cur.cur).mono ?_;rintro e w9 ⟨rfl, GX, dn⟩;have Nt := Lib.hid (qd.out.step GX dn);have RZ := Lib.hid (Sy.out.step dn);have PD := Lib.hid (HU9.out.step dn);have Rl := Lib.hid (YU.out.step dn);clear GX dn;by_cases iX : pk L k = 36
     ·have VY : k < n := (by rw [← hl]; exact bA (by omega));have P7 := Lib.hid (show dh L j = .ok ((l3, true), k + 1) by rw [Oa.out, if_neg (by omega), if_pos iX]);rw [iX];obtain ⟨d1, d2, d3, d4⟩ := Nt.out.cur.cur.step VY;have EB := Lib.hid (Nt.out.step d3 d4);have T3 := Lib.hid (RZ.out.step d4);have VB := Lib.hid (PD.out.step d4);have Vi := Lib.hid (Rl.out.step d4);have hwk : IntKind.i64.wrap ((k : Int) + 1) = (k : Int) + 1 := wrap_small _ (by omega) (by omega);have z1 := EB.out.box.frozen 1;have y1 := EB.out.box.cell 1;have KG := Lib.hid (EB.out.put 1 (.bool true));have IK := Lib.hid (T3.out.put (k := 1) (x := .bool true));have TJ := Lib.hid (VB.out.put (k := 1) (x := .bool true));have J1 := Lib.hid (Vi.out.put (k := 1) (x := .bool true));clear d3 d4 iX z4 y4;go_wp2_with fail;go_meet;exact ⟨l3, true, k + 1, _, P7.out, J1.out, IK.out, TJ.out, KG.out⟩
     have UZ : (pk L k == 36) = false := (by rw [beq_eq_false_iff_ne]; exact iX);have P7 := Lib.hid (show dh L j = .ok ((l3, false), k) by rw [Oa.out, if_neg (by omega), if_neg iX]);go_wp2_with fail;go_meet;exact ⟨l3, false, k, _, P7.out, Rl.out, RZ.out, PD.out, Nt.out⟩
   have Z5 : (pk L j == 125) = false := (by rw [beq_eq_false_iff_ne]; exact vl);have P7 := Lib.hid (show dh L j = .ok (([], false), j) from KU vl);go_wp2_with fail;go_meet;exact ⟨[], false, j, _, P7.out, cP.nil _ _, Wh.out, Wl.out, pz.out⟩
  obtain ⟨a, fin, k, ua, htl, U8, Es, OK, hf⟩ := hcut;obtain ⟨Aa, na, ca, rfl, _⟩ := U8.form;obtain ⟨Ab, nb, cb, rfl, _⟩ := OK.form;have gO := Lib.hid (JW.out b ss a cc fin j k V3.out htl);have NK := Lib.hid hf;have Rb := Lib.hid U8;have PC := Lib.hid Es;have RT := Lib.hid OK;clear U8 Es OK hf htl;go_wp2_with fail;refine (qR.out _ k NK.out.cur.cur).mono ?_;rintro e w14 ⟨rfl, Qe, I9⟩;have lC := NK.out.step Qe I9;have T5 := Lib.hid (Rb.out.step I9);have Uy := Lib.hid (PC.out.step I9);have Vk := Lib.hid (RT.out.step I9);have y0 := lC.box.cell 0;have y1 := lC.box.cell 1;have y2 := lC.box.cell 2;have y3 := lC.box.cell 3;have y4 := lC.box.cell 4;have y5 := lC.box.cell 5;have x0 := lC.res.cell 0;have x1 := lC.res.cell 1;have x2 := lC.res.cell 2;have x3 := lC.res.cell 3;have x4 := lC.res.cell 4;have x5 := lC.res.cell 5;have z0 := lC.res.frozen 0;have z1 := lC.res.frozen 1;have z2 := lC.res.frozen 2;have z3 := lC.res.frozen 3;have z4 := lC.res.frozen 4;have z5 := lC.res.frozen 5;obtain ⟨e1, e2, e3, e4⟩ := Lh lC (.bool st) (.bool fin) (.slice Ab nb cb) (.slice As ns cs) (.slice Aa na ca) (.int .i64 cc);have Cv := Lib.hid e1;have Hh := Lib.hid e2;have ZP := Lib.hid e3;have Ie := Lib.hid e4;clear e1 e2 e3 e4 Qe I9 lC;go_wp2_with fail;clear x0 x1 x2 x3 x4 x5 y0 y1 y2 y3 y4 y5 z0 z1 z2 z3 z4 z5 NK Rb PC RT;generalize ((((((w14.setCell ⟨w.heap.size, 0, none⟩ (.bool st)).setCell ⟨w.heap.size, 1, none⟩ (.bool fin)).setCell ⟨w.heap.size, 2, none⟩ (.slice Ab nb cb)).setCell ⟨w.heap.size, 3, none⟩ (.slice As ns cs)).setCell ⟨w.heap.size, 4, none⟩ (.slice Aa na ca)).setCell ⟨w.heap.size, 5, none⟩ (.int .i64 cc)) = W6 at *;have hbk := ZP.out;have r0 : W6.cell? ⟨w.heap.size, 0, none⟩ = some (.bool st) := hbk.cell 0;have r1 : W6.cell? ⟨w.heap.size, 1, none⟩ = some (.bool fin) := hbk.cell 1;have r2 : W6.cell? ⟨w.heap.size, 2, none⟩ = some (.slice Ab nb cb) := hbk.cell 2
  have r3 : W6.cell? ⟨w.heap.size, 3, none⟩ = some (.slice As ns cs) := hbk.cell 3;have r4 : W6.cell? ⟨w.heap.size, 4, none⟩ = some (.slice Aa na ca) := hbk.cell 4;have r5 : W6.cell? ⟨w.heap.size, 5, none⟩ = some (.int .i64 cc) := hbk.cell 5;clear hbk;refine bodyPost_ret (v := .agg #[.bool st, .bool fin, .slice Ab nb cb, .slice As ns cs, .slice Aa na ca, .int .i64 cc]) (by simp [results, Tryz.results100, go_sem, r0, r1, r2, r3, r4, r5]) rfl ?_;rw [gO.out];exact ⟨⟨_, _, _, rfl, Vk.out.keep Ie.out, Uy.out.keep Ie.out, T5.out.keep Ie.out⟩, Cv.out, Hh.out⟩
theorem yP {w : World} {R F m : Nat} {v : Value} {x p : Int} {tR tF : TypeId} (hR : au w R tR #[v]) (hF : au w F tF #[.int .i64 x, .int .i64 p]) (hne : R ≠ F) :
    au ((((w.drewN m).setCell ⟨R, 0, none⟩ v).setCell ⟨F, 0, none⟩ (.int .i64 x)).setCell ⟨F, 1, none⟩ (.int .i64 p)) R tR #[v] ∧ au ((((w.drewN m).setCell ⟨R, 0, none⟩ v).setCell ⟨F, 0, none⟩ (.int .i64 x)).setCell ⟨F, 1, none⟩ (.int .i64 p)) F tF #[.int .i64 x, .int .i64 p] ∧
      ∀ B, B ≤ R → B ≤ F → B ≤ w.heap.size → Below B w ((((w.drewN m).setCell ⟨R, 0, none⟩ v).setCell ⟨F, 0, none⟩ (.int .i64 x)).setCell ⟨F, 1, none⟩ (.int .i64 p)) ∧
        ag w (fun b => b ≠ R ∧ b ≠ F) ((((w.drewN m).setCell ⟨R, 0, none⟩ v).setCell ⟨F, 0, none⟩ (.int .i64 x)).setCell ⟨F, 1, none⟩ (.int .i64 p)) (fun b => b ≠ R ∧ b ≠ F) := by
 have h1 : au ((w.drewN m).setCell ⟨R, 0, none⟩ v) R tR #[v] := (hR.drewN m).put 0 v;have b1 := bK.set (w.drewN m) R 0 v;have g1 : au ((w.drewN m).setCell ⟨R, 0, none⟩ v) F tF #[.int .i64 x, .int .i64 p] := (b1.2.2.2.2 F (hF.drewN m).lt (Ne.symm hne)).trans (hF.drewN m);have b2 := bK.set ((w.drewN m).setCell ⟨R, 0, none⟩ v) F 0 (.int .i64 x);have g2 : au (((w.drewN m).setCell ⟨R, 0, none⟩ v).setCell ⟨F, 0, none⟩ (.int .i64 x)) F tF #[.int .i64 x, .int .i64 p] := g1.put 0 _;have h2 : au (((w.drewN m).setCell ⟨R, 0, none⟩ v).setCell ⟨F, 0, none⟩ (.int .i64 x)) R tR #[v] := (b2.2.2.2.2 R h1.lt hne).trans h1;have b3 := bK.set (((w.drewN m).setCell ⟨R, 0, none⟩ v).setCell ⟨F, 0, none⟩ (.int .i64 x)) F 1 (.int .i64 p);refine ⟨(b3.2.2.2.2 R h2.lt hne).trans h2, g2.put 1 _, fun B hR hF hw => ⟨?_, ?_⟩⟩;exact ((below_drewN (Below.refl B w) m).trans (b1.to (show B ≤ (w.drewN m).heap.size from hw) hR)).trans ((b2.to (Nat.le_trans hw b1.1) hF).trans (b3.to (Nat.le_trans (Nat.le_trans hw b1.1) b2.1) hF));exact (((ag.below (below_drewN (Below.refl _ w) m) (fun b h _ => h)).trans (b1.keeps (X' := fun b => b ≠ R ∧ b ≠ F) (fun b h => h.1) (fun b h _ => h))).trans (b2.keeps (X' := fun b => b ≠ R ∧ b ≠ F) (fun b h => h.2) (fun b h _ => h))).trans (b3.keeps (fun b h => h.2) (fun b h _ => h))
def fQ {α : Type} (r : jz α) : Prop := ∀ e p, r = .error (e, p) → e ≠ 0
theorem gv {L : List Int} {i : Nat} {r : Int} {e : Int} {p : Nat} (h : aW L i r = .error (e, p)) : e ≠ 0 := by
 unfold aW at h;split at h
 ·cases h
 injection h with h; injection h with h1 h2; omega
theorem JY (L : List Int) (i : Nat) : fQ (jn L i) := by
 intro e p h;unfold jn at h;cases h1 : aW L (i + 1) 123 with
 | error x => obtain ⟨x1, x2⟩ := x; rw [h1] at h; simp only at h; injection h with h; injection h with h3 h4; subst h3; exact gv h1
 | ok a =>
  rw [h1] at h;simp only at h;split at h
  ·injection h with h; injection h with h1 h2; omega
  cases h2 : aW L (aA ee L a) 125 with
  | error x => obtain ⟨x1, x2⟩ := x; rw [h2] at h; simp only at h; injection h with h; injection h with h3 h4; subst h3; exact gv h2
  | ok k =>
   rw [h2] at h;simp only at h;split at h
   ·injection h with h; injection h with h1 h2; omega
   cases h
theorem qO (L : List Int) (i : Nat) : fQ (cC L i) := by
 intro e p h;unfold cC at h;(repeat' (split at h));(any_goals (cases h; done));(any_goals (injection h with h; injection h with h1 h2; omega));exact JY _ _ _ _ h
theorem Fh (L : List Int) (i : Nat) : fQ (gU L i) := by
 intro e p h;unfold gU at h;cases h1 : cC L i with
 | error x => obtain ⟨x1, x2⟩ := x; rw [h1] at h; simp only at h; injection h with h; injection h with h3 h4; subst h3; exact qO _ _ _ _ h1
 | ok q =>
  obtain ⟨a, j⟩ := q;rw [h1] at h;simp only at h;split at h
  ·cases h2 : cC L (j + 1) with
   | error x => obtain ⟨x1, x2⟩ := x; rw [h2] at h; simp only at h; injection h with h; injection h with h3 h4; subst h3; exact qO _ _ _ _ h2
   | ok q =>
    obtain ⟨b, k⟩ := q;rw [h2] at h;simp only at h;split at h
    ·injection h with h; injection h with h1 h2; omega
    cases h
  cases h
theorem CY (L : List Int) (i : Nat) : fQ (eP L i) := by
 intro e p h;unfold eP at h;split at h
 ·injection h with h; injection h with h1 h2; omega
 split at h
 ·rename_i h1; cases h; exact gv h1
 split at h
 ·rename_i h1; cases h; exact gv h1
 cases h
theorem Fq {inner : Nat → jz af} (hi : ∀ i, fQ (inner i)) (L : List Int) (i : Nat) : fQ (cU inner L i) := by
 intro e p h;unfold cU at h;split at h;exact CY _ _ _ _ h;split at h;exact hi _ _ _ h;split at h;exact hi _ _ _ h;split at h
 ·rename_i h1; cases h; exact Fh _ _ _ _ h1
 cases h
theorem Cs {inner : Nat → jz af} (hi : ∀ i, fQ (inner i)) (L : List Int) : ∀ f i s, fQ (dF inner L f i s) := by
 intro f;induction f with
 | zero => intro i s e p h; unfold dF at h; injection h with h; injection h with h1 h2; omega
 | succ f ih =>
  intro i s e p h;rw [dF] at h;split at h
  ·cases h
  split at h
  ·rename_i h1; cases h; exact Fq hi _ _ _ _ h1
  split at h
  ·rename_i h1; injection h with h; injection h with h2 h3; subst h2; exact h1
  exact ih _ _ _ _ h
theorem uH (L : List Int) : ∀ n i, fQ (bu L n i) := by
 intro n;induction n with
 | zero => intro i e p h; unfold bu at h; injection h with h; injection h with h1 h2; split at h1 <;> omega
 | succ n ih =>
  intro i e p h;rw [bu] at h;split at h
  ·rename_i h1; cases h; exact gv h1
  split at h
  ·rename_i h1; cases h; exact Cs ih _ _ _ _ _ _ h1
  split at h
  ·split at h
   ·rename_i h1; injection h with h; injection h with h2 h3; subst h2; exact h1
   cases h
  cases h
theorem xU (L : List Int) (i : Nat) : fQ (fh L i) := by
 intro e p h;unfold fh at h;split at h
 ·cases h
 injection h with h; injection h with h1 h2; omega
theorem Bw (L : List Int) (i : Nat) : fQ (fJ L i) := by
 intro e p h;unfold fJ at h;split at h
 ·cases h
 injection h with h; injection h with h1 h2; omega
theorem FW (L : List Int) (a : Nat) (out : List ak) (cur : Int) (e : Int) (p : Nat) (h : bH L a out cur = .error (e, p)) : e ≠ 0 := by
 unfold bH at h;split at h
 ·split at h
  ·injection h with h; injection h with h1 h2; omega
  cases h
 split at h
 ·split at h
  ·rename_i h1; injection h with h; subst h; exact uH L 20 a _ _ h1
  cases h
 split at h
 ·split at h
  ·rename_i h1; injection h with h; subst h; exact xU L _ _ _ h1
  cases h
 split at h
 ·split at h
  ·rename_i h1; injection h with h; subst h; exact Bw L _ _ _ h1
  cases h
 split at h
 ·split at h
  ·rename_i h1; injection h with h; subst h; exact qO L _ _ _ h1
  split at h
  ·cases h
  injection h with h; injection h with h1 h2; omega
 cases h
theorem oB (L : List Int) : ∀ f i out cur, fQ (bJ L f i out cur) := by
 intro f;induction f with
 | zero => intro i out cur e p h; rw [bJ] at h; injection h with h; injection h with h1 h2; omega
 | succ f ih =>
  intro i out cur e p h;rw [bJ] at h;split at h
  ·rename_i h1; injection h with h; subst h; exact FW L _ _ _ _ _ h1
  ·cases h
  split at h
  ·injection h with h; injection h with h1 h2; omega
  exact ih _ _ _ _ _ h
theorem EG (L : List Int) (st : Bool) (a : Nat) : fQ (cJ L st a) := by
 intro e p h;unfold cJ at h;split at h
 ·rename_i h1; injection h with h; subst h; exact oB L _ _ _ _ _ _ h1
 split at h
 ·split at h
  ·injection h with h; injection h with h1 h2; omega
  split at h
  ·rename_i h1; injection h with h; subst h; exact oB L _ _ _ _ _ _ h1
  cases h
 split at h
 ·injection h with h; injection h with h1 h2; omega
 cases h
theorem Gz (L : List Int) (a : Nat) : fQ (dh L a) := by
 intro e p h;unfold dh at h;split at h
 ·split at h
  ·rename_i h1; injection h with h; subst h; exact oB L _ _ _ _ _ _ h1
  split at h
  ·injection h with h; injection h with h1 h2; omega
  split at h <;> cases h
 cases h
theorem xX (L : List Int) (i : Nat) : fQ (cH L i) := by
 intro e p h;unfold cH at h;split at h
 ·rename_i h1; injection h with h; subst h; exact EG L _ _ _ _ h1
 split at h
 ·rename_i h1; injection h with h; subst h; exact Gz L _ _ _ h1
 cases h
theorem Cn (L : List Int) (i : Nat) : fQ (dw L i) := by
 intro e p h;unfold dw at h;split at h
 ·cases h
 split at h
 ·cases h
 split at h
 ·rename_i h1; injection h with h; subst h; exact gv h1
 cases h
theorem Gr (L : List Int) (i : Nat) : fQ (gI L i) := by
 intro e p h;unfold gI at h;split at h
 ·unfold iz at h;split at h
  ·rename_i h1; injection h with h; subst h; exact gv h1
  split at h
  ·split at h
   ·rename_i h1; injection h with h; subst h; exact uH L 20 _ _ _ h1
   cases h
  split at h
  ·cases h
  injection h with h; injection h with h1 h2; omega
 split at h
 ·unfold mT at h;split at h
  ·rename_i h1; injection h with h; subst h; exact xU L _ _ _ h1
  split at h
  ·rename_i h1; injection h with h; subst h; exact gv h1
  split at h
  ·rename_i h1; injection h with h; subst h; exact uH L 20 _ _ _ h1
  cases h
 unfold gA at h;split at h
 ·rename_i h1; injection h with h; subst h; exact xX L _ _ _ h1
 split at h
 ·rename_i h1; injection h with h; subst h; exact Cn L _ _ _ h1
 split at h
 ·rename_i h1; injection h with h; subst h; exact xX L _ _ _ h1
 split at h
 ·rename_i h1; injection h with h; injection h with h2 h3; subst h2; exact h1
 cases h
theorem Fc (L : List Int) : ∀ f i l (e : Int) (p : Nat), gf L f i l = .error (e, p) → e ≠ 0 := by
 intro f;induction f with
 | zero => intro i l e p h; rw [gf] at h; injection h with h; injection h with h1 h2; omega
 | succ f ih =>
  intro i l e p h;rw [gf] at h;split at h
  ·cases h
  split at h
  ·injection h with h; injection h with h1 h2; omega
  split at h
  ·rename_i h1; injection h with h; subst h; exact Gr L _ _ _ h1
  split at h
  ·rename_i h1; injection h with h; subst h; exact gv h1
  exact ih _ _ _ _ h
theorem Bt {L : List Int} (h : 16000 < L.length) : iK L = ([], (4, 0)) := by unfold iK; rw [if_pos h]
theorem CK {L : List Int} {e : Int} {p : Nat} (h : ¬ 16000 < L.length) (h2 : gf L (L.length + 1) 0 [] = .error (e, p)) : iK L = ([], (e, (p : Int))) := by unfold iK; rw [if_neg h, h2]
theorem ES {L : List Int} {l : List ay} (h : ¬ 16000 < L.length) (h2 : gf L (L.length + 1) 0 [] = .ok l) : iK L = (l, (0, 0)) := by unfold iK; rw [if_neg h, h2]
end Go.Proofs.YthnhbcohfoodlaaGreatDoor
