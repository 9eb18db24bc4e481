/- Close + Fail + Reverse + Ready -/
import Derived.Test.YthnhbcohfoodlaaGreatDoorZw27
import Derived.Deep.DeepCutAuto
import Derived.BigRegion
import Derived.Laws.OwnMore
import Derived.Test.YthnhbcohfoodlaaGreatDoorZw13
set_option maxHeartbeats 3200000
set_option maxRecDepth 100000
namespace Go.Proofs.YthnhbcohfoodlaaGreatDoor
open Go.RowKit
theorem xj : (Tryz.prog.info? 118).map (fun i => (i.zero, i.size, i.bytes)) = some (some (.agg #[.string ⟨#[]⟩, .slice none 0 0]), 2, 40) := by kernel_rfl
def BU (ga gb gp gq : Nat) (vp vq : Value) (w w' : World) : Prop :=
  w'.os = w.os ∧ w'.tape = w.tape ∧ w'.output = w.output ∧ w.heap.size ≤ w'.heap.size ∧
  ∀ k, k < w.heap.size → k ≠ ga → k ≠ gb → k ≠ gp → k ≠ gq → vp.ownBlock ≠ some k → vq.ownBlock ≠ some k → w'.heap[k]? = w.heap[k]?
def iw (ga gb gp gq : Nat) (ca cb cp cq : Value) (w : World) : Prop :=
  au w ga 116 #[ca] ∧ au w gb 116 #[cb] ∧ au w gp 51 #[cp] ∧ au w gq 51 #[cq]
structure Jh (B lo ga gb gp gq : Nat) : Prop where
  Bl : B ≤ lo
  a1 : B ≤ ga
  a2 : ga < lo
  b1 : B ≤ gb
  b2 : gb < lo
  p1 : B ≤ gp
  p2 : gp < lo
  q1 : B ≤ gq
  q2 : gq < lo
  ab : ga ≠ gb
  ap : ga ≠ gp
  aq : ga ≠ gq
  bp : gb ≠ gp
  bq : gb ≠ gq
  pq : gp ≠ gq
section
variable {B lo : Nat} {A A2 : List eB} {P P2 : List fk} {va vb vp vq : Value} {wx : World}
theorem cQ.set {g i : Nat} {u : Value} (h : cQ B lo A A2 P P2 va vb vp vq wx) (h1 : B ≤ g) (h2 : g < lo) : cQ B lo A A2 P P2 va vb vp vq (wx.setCell ⟨g, i, none⟩ u) :=
  cQ.kept (ag.setCell u (fun b hb => by rcases hb with h | h <;> dsimp only <;> omega) (fun _ h _ => h)) (fun _ _ _ _ _ h => uw h h2) h
end
def Rv (B lo ga gb gp gq : Nat) (A2 : List eB) (P P2 : List fk) (ca vb vp vq : Value) (w : World) (wx : World) : Prop :=
  ∃ Dn, cQ B lo [] A2 P P2 (.slice none 0 0) vb Dn vq wx ∧ iw ga gb gp gq ca vb Dn vq wx ∧ BU ga gb gp gq vp vq w wx ∧ (∀ k, Dn.ownBlock = some k → vp.ownBlock = some k ∨ w.heap.size ≤ k)
theorem xT (B lo ga gb gp gq : Nat) (pl : Jh B lo ga gb gp gq) (A A2 : List eB) (P P2 : List fk) (va vb vp vq : Value) (w : World) (hlo : lo ≤ w.heap.size) (hst : cQ B lo A A2 P P2 va vb vp vq w) (hv : iw ga gb gp gq va vb vp vq w)
    (hA : A.length ≤ 1000) (nT : A2.length ≤ 1000) (hP : P.length ≤ 1000) (hP2 : P2.length ≤ 1000) :
    Calls Tryz.prog 121 #[.pointer (some ⟨ga, 0, none⟩), .pointer (some ⟨gp, 0, none⟩), .pointer (some ⟨gb, 0, none⟩), .pointer (some ⟨gq, 0, none⟩)] w fun e w' => e = .returned (.tuple #[]) ∧
      ∃ Dn Cb, cQ B lo [] [] (P ++ gj A) (P2 ++ gj A2) (.slice none 0 0) (.slice none 0 0) Dn Cb w' ∧ iw ga gb gp gq (.slice none 0 0) (.slice none 0 0) Dn Cb w' ∧ BU ga gb gp gq vp vq w w' ∧ (∀ k, Dn.ownBlock = some k → vp.ownBlock = some k ∨ w.heap.size ≤ k) ∧ (∀ k, Cb.ownBlock = some k → vq.ownBlock = some k ∨ w.heap.size ≤ k) := by
 obtain ⟨i0, hi, hz0, ko, kZ⟩ := info_parts xj;obtain ⟨WT, pa1, pa2, Zo, YA, pp1, pp2, pq1, Y7, Xj, pap, WV, W9, XF, XN⟩ := pl;obtain ⟨Aa, ka, rfl, _⟩ := hst.1.form;obtain ⟨Ab, kb, rfl, _⟩ := hst.2.1.form;obtain ⟨Ap, kp, rfl, _⟩ := hst.2.2.1.form;obtain ⟨Aq, kq, rfl, _⟩ := hst.2.2.2.1.form;have a0 : w.cell? ⟨ga, 0, none⟩ = some (.slice Aa A.length ka) := hv.1.cell 0;have hM := Lib.hid hst;have HV := Lib.hid hv;clear hst hv;go_enter Tryz.func121, Tryz.ntmps121;go_upto_if 6 with fail;go_cut [] (fun wx => Rv B lo ga gb gp gq A2 (P ++ gj A) P2 (.slice Aa A.length ka) (.slice Ab A2.length kb) (.slice Ap P.length kp) (.slice Aq P2.length kq) w wx);case first =>
  by_cases h0 : 0 < A.length
  ·obtain ⟨x, r, Qx⟩ : ∃ x r, A = x :: r := by
    cases A with
    | nil => simp at h0
    | cons x r => exact ⟨x, r, rfl⟩
   have M7 := Lib.hid (show gj A = [⟨⟨#[]⟩, A⟩] by rw [Qx]; rfl);clear Qx;have b0 : w.cell? ⟨gp, 0, none⟩ = some (.slice Ap P.length kp) := HV.out.2.2.1.cell 0;have Cd := hM.out.drop;have hps := hM.out.pass (by unfold maxLen; omega) ⟨#[]⟩;have nY := Cd;obtain ⟨_, _, ⟨css, g1, g2, g3, g4⟩, _⟩ := nY;have HN := Lib.hid (Rd.new w 118 2 1 [.string ⟨#[]⟩, .slice Aa A.length ka] rfl);have HO := Lib.hid (World.ownsRow.alloc g4 (.cells #[.string ⟨#[]⟩, .slice Aa A.length ka] 118));have HD := Lib.hid Cd;have HP := Lib.hid hps;have G1 := Lib.hid g1;have G2 := Lib.hid g2;have G3 := Lib.hid g3;have G4 := Lib.hid g4;have GP := Lib.hid (show ∀ u ∈ [Value.string ⟨#[]⟩, Value.slice Aa A.length ka], u.oneCell' = true by intro x hx; simp at hx; rcases hx with rfl | rfl <;> rfl);have HZ := Lib.hid (show lo ≤ (w.alloc (.cells #[.string ⟨#[]⟩, .slice Aa A.length ka] 118)).heap.size by simp; omega);clear Cd hps g1 g2 g3 g4;go_wp2_with (at_builtin; refine ax _ rfl (.tmp 7) (.tmp 10) 51 rfl lo 118 i0 _ 2 40 Tryz.underlying51 hi hz0 ko kZ rfl (by decide) _ _ _ rfl HO.out _ (some ⟨w.heap.size, 0, none⟩) 1 1 [.string ⟨#[]⟩, .slice Aa A.length ka] rfl HN.out GP.out (by simp only [maxLen]; omega) (by omega) HZ.out ?_);intro v9 w9 aB;have hsz := HZ.out;have oD := aB.own;obtain ⟨A9, k9, rfl, _⟩ := aT oD;clear oD;have tK := cQ.xF WT HD.out G1.out G2.out G3.out G4.out HP.out rfl aB;have zk := cT (au.alloc HV.out.2.2.1 (.cells #[.string ⟨#[]⟩, .slice Aa A.length ka] 118)) HO.out (by decide) aB;have P4 := cT (au.alloc HV.out.1 (.cells #[.string ⟨#[]⟩, .slice Aa A.length ka] 118)) HO.out (by decide) aB;have Pj := cT (au.alloc HV.out.2.1 (.cells #[.string ⟨#[]⟩, .slice Aa A.length ka] 118)) HO.out (by decide) aB
   have Wj := cT (au.alloc HV.out.2.2.2 (.cells #[.string ⟨#[]⟩, .slice Aa A.length ka] 118)) HO.out (by decide) aB;have c9 : w9.cell? ⟨gp, 0, none⟩ = some (.slice Ap P.length kp) := zk.cell 0;have f9 := zk.frozen 0;have lY : BU ga gb gp gq (.slice Ap P.length kp) (.slice Aq P2.length kq) w w9 := by
    refine ⟨aB.2.1.os, aB.2.1.tape, aB.2.1.output, Nat.le_trans (by simp) aB.2.1.size, fun k hk _ _ _ _ h1 _ => ?_⟩;exact (aB.2.1.block k (by simp; omega) (fun e => h1 e.symm)).trans (heap_alloc_old w _ hk)
   have wR : ∀ k, (Value.slice A9 (P.length + 1) k9).ownBlock = some k → (Value.slice Ap P.length kp).ownBlock = some k ∨ w.heap.size ≤ k := by
    intro k hk;rcases aB.2.2 with e | e;exact .inl (e ▸ hk);rw [e] at hk;injection hk with hk;right;simp at hk;omega
   have EY := Lib.hid tK;have uk := Lib.hid lY;have Uv := Lib.hid wR;have K6 := Lib.hid zk;have Re := Lib.hid P4;have T' := Lib.hid Pj;have HVQ := Lib.hid Wj;clear aB tK zk P4 Pj Wj lY wR;go_wp2_with fail;go_meet;refine ⟨.slice A9 (P.length + 1) k9, ?_, ⟨aj Re.out pap, aj T'.out W9, ?_, aj HVQ.out (Ne.symm XN)⟩, ⟨uk.out.1, uk.out.2.1, uk.out.2.2.1, by simpa using uk.out.2.2.2.1, fun k hk h1 h2 h3 h4 h5 h6 => ?_⟩, Uv.out⟩
   ·rw [M7.out];exact cQ.set EY.out pp1 pp2
   exact K6.out.put 0 _;exact (Below.heap_setCell _ _ _ _ h3).trans (uk.out.2.2.2.2 k hk h1 h2 h3 h4 h5 h6)
  have Kv : A = [] := List.eq_nil_of_length_eq_zero (by omega);have M7 := Lib.hid (show P ++ gj A = P by rw [Kv]; simp [gj]);clear Kv;go_wp2_with fail;go_meet;refine ⟨_, ?_, HV.out, ⟨rfl, rfl, rfl, Nat.le_refl _, fun _ _ _ _ _ _ _ _ => rfl⟩, fun k hk => .inl hk⟩;rw [M7.out];exact hM.out.drop
 obtain ⟨Dn, zj, GH, bt, hg1⟩ := hcut;obtain ⟨XR, WC, rfl, _⟩ := zj.2.2.1.form;have nE := Lib.hid zj.uU.rJ;have GM := Lib.hid GH;have cy := Lib.hid bt;have ju := Lib.hid hg1;have b0 : wc.cell? ⟨gb, 0, none⟩ = some (.slice Ab A2.length kb) := GH.2.1.cell 0;have hPl : (P ++ gj A).length ≤ 1001 := (by rw [List.length_append]; cases A <;> simp [gj] <;> omega);clear zj GH bt hg1;generalize Xc : P ++ gj A = P1 at *;have qJ := Lib.hid Xc;clear Xc;go_upto_if 14 with fail;go_cut [] (fun wx => ∃ Cb, cQ B lo [] [] (P2 ++ gj A2) P1 (.slice none 0 0) (.slice none 0 0) Cb (.slice XR P1.length WC) wx ∧ iw ga gb gp gq (.slice Aa A.length ka) (.slice Ab A2.length kb) (.slice XR P1.length WC) Cb wx ∧ BU ga gb gp gq (.slice Ap P.length kp) (.slice Aq P2.length kq) w wx ∧ (∀ k, Cb.ownBlock = some k → (Value.slice Aq P2.length kq).ownBlock = some k ∨ w.heap.size ≤ k));case first =>
  by_cases h0 : 0 < A2.length
  ·obtain ⟨x, r, Qx⟩ : ∃ x r, A2 = x :: r := by
    cases A2 with
    | nil => simp at h0
    | cons x r => exact ⟨x, r, rfl⟩
   have M7 := Lib.hid (show gj A2 = [⟨⟨#[]⟩, A2⟩] by rw [Qx]; rfl);clear Qx;have b1 : wc.cell? ⟨gq, 0, none⟩ = some (.slice Aq P2.length kq) := GM.out.2.2.2.cell 0;have Cd := nE.out.drop;have hps := nE.out.pass (by unfold maxLen; omega) ⟨#[]⟩;have nY := Cd;obtain ⟨_, _, ⟨css, g1, g2, g3, g4⟩, _⟩ := nY;have HN := Lib.hid (Rd.new wc 118 2 1 [.string ⟨#[]⟩, .slice Ab A2.length kb] rfl);have HO := Lib.hid (World.ownsRow.alloc g4 (.cells #[.string ⟨#[]⟩, .slice Ab A2.length kb] 118));have HD := Lib.hid Cd;have HP := Lib.hid hps;have G1 := Lib.hid g1;have G2 := Lib.hid g2;have G3 := Lib.hid g3;have G4 := Lib.hid g4;have GP := Lib.hid (show ∀ u ∈ [Value.string ⟨#[]⟩, Value.slice Ab A2.length kb], u.oneCell' = true by intro x hx; simp at hx; rcases hx with rfl | rfl <;> rfl);have hwc := cy.out.2.2.2.1;have HZ := Lib.hid (show lo ≤ (wc.alloc (.cells #[.string ⟨#[]⟩, .slice Ab A2.length kb] 118)).heap.size by simp; omega);clear Cd hps g1 g2 g3 g4;go_wp2_with (at_builtin; refine ax _ rfl (.tmp 15) (.tmp 18) 51 rfl lo 118 i0 _ 2 40 Tryz.underlying51 hi hz0 ko kZ rfl (by decide) _ _ _ rfl HO.out _ (some ⟨wc.heap.size, 0, none⟩) 1 1 [.string ⟨#[]⟩, .slice Ab A2.length kb] rfl HN.out GP.out (by simp only [maxLen]; omega) (by omega) HZ.out ?_);intro v9 w9 aB;have hsz := HZ.out;have oD := aB.own;obtain ⟨A9, k9, rfl, _⟩ := aT oD;clear oD;have tK := cQ.xF WT HD.out G1.out G2.out G3.out G4.out HP.out rfl aB;have zk := cT (au.alloc GM.out.2.2.2 (.cells #[.string ⟨#[]⟩, .slice Ab A2.length kb] 118)) HO.out (by decide) aB;have P4 := cT (au.alloc GM.out.1 (.cells #[.string ⟨#[]⟩, .slice Ab A2.length kb] 118)) HO.out (by decide) aB
   have Pj := cT (au.alloc GM.out.2.1 (.cells #[.string ⟨#[]⟩, .slice Ab A2.length kb] 118)) HO.out (by decide) aB;have XZ := cT (au.alloc GM.out.2.2.1 (.cells #[.string ⟨#[]⟩, .slice Ab A2.length kb] 118)) HO.out (by decide) aB;have c9 : w9.cell? ⟨gq, 0, none⟩ = some (.slice Aq P2.length kq) := zk.cell 0;have f9 := zk.frozen 0;have lY : BU ga gb gp gq (.slice Ap P.length kp) (.slice Aq P2.length kq) w w9 := by
    obtain ⟨y1, y2, y3, y4, y5⟩ := cy.out;refine ⟨aB.2.1.os.trans y1, aB.2.1.tape.trans y2, aB.2.1.output.trans y3, Nat.le_trans y4 (Nat.le_trans (by simp) aB.2.1.size), fun k hk z1 z2 z3 z4 h1 h2 => ?_⟩;exact ((aB.2.1.block k (by simp; omega) (fun e => h2 e.symm)).trans (heap_alloc_old wc _ (by omega))).trans (y5 k hk z1 z2 z3 z4 h1 h2)
   have wR : ∀ k, (Value.slice A9 (P2.length + 1) k9).ownBlock = some k → (Value.slice Aq P2.length kq).ownBlock = some k ∨ w.heap.size ≤ k := by
    intro k hk;rcases aB.2.2 with e | e;exact .inl (e ▸ hk);rw [e] at hk;injection hk with hk;right;simp at hk;omega
   have EY := Lib.hid tK;have uk := Lib.hid lY;have Uv := Lib.hid wR;have K6 := Lib.hid zk;have Re := Lib.hid P4;have T' := Lib.hid Pj;have Zv := Lib.hid XZ;clear aB tK zk P4 Pj XZ lY wR;go_wp2_with fail;go_meet;refine ⟨.slice A9 (P2.length + 1) k9, ?_, ⟨aj Re.out WV, aj T'.out XF, aj Zv.out XN, K6.out.put 0 _⟩, ⟨uk.out.1, uk.out.2.1, uk.out.2.2.1, by simpa using uk.out.2.2.2.1, fun k hk h1 h2 h3 h4 h5 h6 => ?_⟩, Uv.out⟩
   ·rw [M7.out];exact cQ.set EY.out pq1 Y7
   exact (Below.heap_setCell _ _ _ _ h4).trans (uk.out.2.2.2.2 k hk h1 h2 h3 h4 h5 h6)
  have Kv : A2 = [] := List.eq_nil_of_length_eq_zero (by omega);have M7 := Lib.hid (show P2 ++ gj A2 = P2 by rw [Kv]; simp [gj]);clear Kv;go_wp2_with fail;go_meet;refine ⟨_, ?_, GM.out, cy.out, fun k hk => .inl hk⟩;rw [M7.out];exact nE.out.drop
 obtain ⟨Cb, iT, Bz, bn, Bf⟩ := hcut;have c1 : wc.cell? ⟨ga, 0, none⟩ = some (.slice Aa A.length ka) := Bz.1.cell 0;have c2 : wc.cell? ⟨gb, 0, none⟩ = some (.slice Ab A2.length kb) := Bz.2.1.cell 0;have f1 := Bz.1.frozen 0;have f2 := Bz.2.1.frozen 0;have qH := Lib.hid iT;have Mp := Lib.hid Bz;have cE := Lib.hid bn;have pE := Lib.hid Bf;clear iT Bz bn Bf;go_wp2_with fail;go_end0;rw [qJ.out];refine ⟨rfl, _, Cb, (cQ.set (cQ.set qH.out pa1 pa2) Zo YA).rJ, ⟨aj (Mp.out.1.put 0 _) Xj, (aj Mp.out.2.1 (Ne.symm Xj)).put 0 _, aj (aj Mp.out.2.2.1 (Ne.symm pap)) (Ne.symm W9), aj (aj Mp.out.2.2.2 (Ne.symm WV)) (Ne.symm XF)⟩, ⟨cE.out.1, cE.out.2.1, cE.out.2.2.1, by simpa using cE.out.2.2.2.1, fun k hk h1 h2 h3 h4 h5 h6 => ?_⟩, ju.out, pE.out⟩;exact ((Below.heap_setCell _ _ _ _ h2).trans (Below.heap_setCell _ _ _ _ h1)).trans (cE.out.2.2.2.2 k hk h1 h2 h3 h4 h5 h6)
end Go.Proofs.YthnhbcohfoodlaaGreatDoor
namespace Go.Proofs.YthnhbcohfoodlaaGreatDoor
open Go.RowKit
abbrev aD : Array Value := #[.bool false, .slice none 0 0, .slice none 0 0]
theorem qn (er i : Int) (g : Nat) (w : World) (hi : w.cell? ⟨g, 0, none⟩ = some (.int .i64 i)) :
    Calls Tryz.prog 122 #[.int .i64 er, .pointer (some ⟨g, 0, none⟩)] w fun e w' => e = .returned (.tuple #[.agg aD, .agg aD, .agg #[.int .i64 er, .int .i64 i]]) ∧ Below w.heap.size w w' := by
 have hg := World.block_lt_of_cell? w _ hi;have z0 := au.alloc (au.alloc (au.new w 53 aD) (.cells aD 53)) (.cells #[.int .i64 0, .int .i64 0] 25);have z1 := au.alloc (au.new (w.alloc (.cells aD 53)) 53 aD) (.cells #[.int .i64 0, .int .i64 0] 25);have z2 := au.new ((w.alloc (.cells aD 53)).alloc (.cells aD 53)) 25 #[.int .i64 0, .int .i64 0];rw [show (w.alloc (.cells aD 53)).heap.size = w.heap.size + 1 by simp] at z1;rw [show ((w.alloc (.cells aD 53)).alloc (.cells aD 53)).heap.size = w.heap.size + 1 + 1 by simp] at z2;have hb := (((Below.refl w.heap.size w).alloc (Nat.le_refl _) (.cells aD 53)).alloc (by simp) (.cells aD 53)).alloc (by simp; omega) (.cells #[.int .i64 0, .int .i64 0] 25);have hc : (((w.alloc (.cells aD 53)).alloc (.cells aD 53)).alloc (.cells #[.int .i64 0, .int .i64 0] 25)).cell? ⟨g, 0, none⟩ = some (.int .i64 i) := (hb.cell hg).trans hi;have Z0 := Lib.hid z0;have Z1 := Lib.hid z1;have Z2 := Lib.hid z2;have HB := Lib.hid hb;have HC := Lib.hid hc;clear z0 z1 z2 hb hc;go_enter Tryz.func122, Tryz.ntmps122;go_upto_region 1 with fail;have z0 := Z0.out;have z1 := Z1.out;have z2 := Z2.out;have hb := HB.out;have hc := HC.out;have hg0 : g ≠ w.heap.size := (by simp only at hg; omega);have hg1 : g ≠ w.heap.size + 1 := (by simp only at hg; omega);have Bf : g ≠ w.heap.size + 1 + 1 := (by simp only at hg; omega);clear Z0 Z1 Z2 HB HC
 generalize ((w.alloc (.cells aD 53)).alloc (.cells aD 53)).alloc (.cells #[.int .i64 0, .int .i64 0] 25) = W3 at *;have a0 : W3.cell? ⟨w.heap.size, 0, none⟩ = some (.bool false) := z0.cell 0;have a1 : W3.cell? ⟨w.heap.size, 1, none⟩ = some (.slice none 0 0) := z0.cell 1;have a2 : W3.cell? ⟨w.heap.size, 2, none⟩ = some (.slice none 0 0) := z0.cell 2;have b0 : W3.cell? ⟨w.heap.size + 1, 0, none⟩ = some (.bool false) := z1.cell 0;have b1 : W3.cell? ⟨w.heap.size + 1, 1, none⟩ = some (.slice none 0 0) := z1.cell 1;have b2 : W3.cell? ⟨w.heap.size + 1, 2, none⟩ = some (.slice none 0 0) := z1.cell 2;have c0 : W3.cell? ⟨w.heap.size + 1 + 1, 0, none⟩ = some (.int .i64 0) := z2.cell 0;have c1 : W3.cell? ⟨w.heap.size + 1 + 1, 1, none⟩ = some (.int .i64 0) := z2.cell 1;have d0 := z0.frozen 0;have d1 := z0.frozen 1;have d2 := z0.frozen 2;have d3 := z1.frozen 0;have d4 := z1.frozen 1;have d5 := z1.frozen 2;have d6 := z2.frozen 0;have d7 := z2.frozen 1;have cE := Lib.hid hb;clear z0 z1 z2 hb;go_region
 all_goals
   go_wp2_with fail
   have cR := (((((((cE.out.setCell (p := ⟨w.heap.size, 0, none⟩) (by simp) (.bool false)).setCell (p := ⟨w.heap.size, 1, none⟩) (by simp) (.slice none 0 0)).setCell (p := ⟨w.heap.size, 2, none⟩) (by simp) (.slice none 0 0)).setCell (p := ⟨w.heap.size + 1, 0, none⟩) (by simp) (.bool false)).setCell (p := ⟨w.heap.size + 1, 1, none⟩) (by simp) (.slice none 0 0)).setCell (p := ⟨w.heap.size + 1, 2, none⟩) (by simp) (.slice none 0 0)).setCell (p := ⟨w.heap.size + 1 + 1, 0, none⟩) (by simp; omega) (.int .i64 er)).setCell (p := ⟨w.heap.size + 1 + 1, 1, none⟩) (by simp; omega) (.int .i64 i)
   refine bodyPost_ret (v := .tuple #[.agg #[.bool false, .slice none 0 0, .slice none 0 0], .agg #[.bool false, .slice none 0 0, .slice none 0 0], .agg #[.int .i64 er, .int .i64 i]]) (by simp [results, Tryz.results122, go_sem, a0, a1, a2, b0, b1, b2, c0, c1]) rfl ⟨rfl, ?_⟩
   exact cR.drew
end Go.Proofs.YthnhbcohfoodlaaGreatDoor
namespace Go.Proofs.YthnhbcohfoodlaaGreatDoor
open Go.RowKit
def sw (n k t : Nat) : Nat := if t < k ∨ n - 1 - k < t then n - 1 - t else t
def Mb (xs : List Value) (i j : Nat) (a b c d : Value) : List Value := (((xs.set (i * 2) c).set (i * 2 + 1) d).set (j * 2) a).set (j * 2 + 1) b
def Pe (w : World) (g lo n cap : Nat) (ys : List Value) (i j : Value) (wr : World) : Prop :=
  ∃ (k q : Nat) (xs : List Value), q + k + 1 = n ∧ k ≤ q + 1 ∧ i = .int .i64 k ∧ j = .int .i64 q ∧ wr.ownsRow lo 118 2 (.slice (some ⟨g, 0, none⟩) n cap) n xs ∧ w.grownBy wr (some g) ∧
    ∀ t d, t < n → d < 2 → xs[t * 2 + d]? = ys[sw n k t * 2 + d]?
theorem Fy {n k q : Nat} {xs ys : List Value} {a b c d : Value} (hn : q + k + 1 = n) (VG : k < q) (hxl : xs.length = n * 2) (h : ∀ t d, t < n → d < 2 → xs[t * 2 + d]? = ys[sw n k t * 2 + d]?)
    (h0 : ys[k * 2]? = some a) (h1 : ys[k * 2 + 1]? = some b) (h2 : ys[q * 2]? = some c) (h3 : ys[q * 2 + 1]? = some d) :
    ∀ t e, t < n → e < 2 → (Mb xs k q a b c d)[t * 2 + e]? = ys[sw n (k + 1) t * 2 + e]? := by
 intro t e ht he;unfold Mb;have hsw : sw n (k + 1) t = if t = k then q else if t = q then k else sw n k t := by
  unfold sw;by_cases e1 : t = k
  ·subst e1;rw [if_pos rfl, if_pos (by omega)];omega
  rw [if_neg e1];by_cases e2 : t = q
  ·subst e2;rw [if_pos rfl, if_pos (by omega)];omega
  rw [if_neg e2];by_cases e3 : t < k ∨ n - 1 - k < t
  ·rw [if_pos e3, if_pos (by omega)]
  rw [if_neg e3, if_neg (by omega)]
 rw [hsw];simp only [List.getElem?_set, List.length_set];by_cases e1 : t = k
 ·subst e1;rw [if_pos rfl];rcases (show e = 0 ∨ e = 1 by omega) with rfl | rfl
  ·rw [if_neg (by omega), if_neg (by omega), if_neg (by omega), if_pos (by omega), if_pos (by omega), Nat.add_zero, h2]
  rw [if_neg (by omega), if_neg (by omega), if_pos (by omega), if_pos (by omega), h3]
 rw [if_neg e1];by_cases e2 : t = q
 ·subst e2;rw [if_pos rfl];rcases (show e = 0 ∨ e = 1 by omega) with rfl | rfl
  ·rw [if_neg (by omega), if_pos (by omega), if_pos (by omega), Nat.add_zero, h0]
  rw [if_pos (by omega), if_pos (by omega), h1]
 rw [if_neg e2, if_neg (by omega), if_neg (by omega), if_neg (by omega), if_neg (by omega)];exact h t e ht he
theorem Jn {n k q : Nat} {xs : List Value} {css : List (List Value)} (hn : q + k + 1 = n) (hq : q ≤ k) (hl : css.length = n) (h2 : ∀ cs ∈ css, cs.length = 2) (hxl : xs.length = n * 2) (h : ∀ t d, t < n → d < 2 → xs[t * 2 + d]? = css.flatten[sw n k t * 2 + d]?) : xs = css.reverse.flatten := by
 have Wn : ∀ cs ∈ css.reverse, cs.length = 2 := fun cs hc => h2 cs (List.mem_reverse.1 hc);apply List.ext_getElem?;intro m;by_cases hm : m < n * 2
 ·have ht : m / 2 < n := (by omega);have hd : m % 2 < 2 := Nat.mod_lt _ (by decide);have em : m / 2 * 2 + m % 2 = m := (by omega);have e1 := h (m / 2) (m % 2) ht hd;rw [em] at e1;obtain ⟨cs, hcs⟩ : ∃ z, css[n - 1 - m / 2]? = some z := ⟨_, List.getElem?_eq_getElem (by omega)⟩;obtain ⟨u, hu⟩ : ∃ u, cs[m % 2]? = some u := ⟨_, List.getElem?_eq_getElem (by rw [h2 cs (List.mem_of_getElem? hcs)]; exact hd)⟩;have hsw : sw n k (m / 2) = n - 1 - m / 2 := by
   unfold sw;by_cases e : m / 2 < k ∨ n - 1 - k < m / 2
   ·rw [if_pos e]
   rw [if_neg e]; omega
  have e2 := fm h2 _ cs hcs _ u hu;have hr : css.reverse[m / 2]? = some cs := by
   rw [List.getElem?_reverse (by omega), hl];exact hcs
  have e3 := fm Wn _ cs hr _ u hu;rw [em] at e3;rw [e1, hsw, e2, e3]
 have hlen : css.reverse.flatten.length = n * 2 := by
  have : ∀ (l : List (List Value)), (∀ cs ∈ l, cs.length = 2) → l.flatten.length = l.length * 2 := by
   intro l;induction l with
   | nil => intro _; rfl
   | cons a l ih =>
    intro ha;rw [List.flatten_cons, List.length_append, ih (fun x hx => ha x (by simp [hx])), ha a (by simp), List.length_cons];omega
  rw [this _ Wn, List.length_reverse, hl]
 rw [List.getElem?_eq_none (by omega), List.getElem?_eq_none (by omega)]
theorem zV (lo g n cap : Nat) (css : List (List Value)) (w : World) (hn : 0 < n) (hn2 : n ≤ 1000) (hl : css.length = n) (hc : ∀ cs ∈ css, ∃ s A m c, cs = [.string s, .slice A m c]) (ho : w.ownsRow lo 118 2 (.slice (some ⟨g, 0, none⟩) n cap) n css.flatten) :
    Calls Tryz.prog 125 #[.slice (some ⟨g, 0, none⟩) n cap] w fun e w' => e = .returned (.tuple #[]) ∧ w'.ownsRow lo 118 2 (.slice (some ⟨g, 0, none⟩) n cap) n css.reverse.flatten ∧ w.grownBy w' (some g) := by
 have h2 : ∀ cs ∈ css, cs.length = 2 := fun cs h => (by obtain ⟨s, A, m, c, rfl⟩ := hc cs h; rfl);have HL := Lib.hid hl;have HC := Lib.hid hc;have H2 := Lib.hid h2;have HO := Lib.hid ho;clear hl hc h2 ho;go_enter Tryz.func125, Tryz.ntmps125;go_wp2_with fail;go_loopw [2, 3] (Pe w g lo n cap css.flatten) (fun i j _ => n - (intOf i).toNat);case atStart =>
  refine ⟨0, n - 1, css.flatten, by omega, by omega, rfl, by go_num, HO.out, World.grownBy.refl _ _, fun t d ht hd => ?_⟩;unfold sw;rw [if_neg (by omega)]
 obtain ⟨k, q, xs, VG, Zg, rfl, rfl, hown, wR, hx⟩ := hrel;by_cases hlt : k < q
 ·obtain ⟨c1, fO⟩ : ∃ z, css[k]? = some z := ⟨_, List.getElem?_eq_getElem (by rw [HL.out]; omega)⟩;obtain ⟨c2, jj⟩ : ∃ z, css[q]? = some z := ⟨_, List.getElem?_eq_getElem (by rw [HL.out]; omega)⟩;obtain ⟨s1, A1, m1, d1, rfl⟩ := HC.out c1 (List.mem_of_getElem? fO);obtain ⟨s2, A2, m2, d2, rfl⟩ := HC.out c2 (List.mem_of_getElem? jj);have y0 : css.flatten[k * 2]? = some (.string s1) := fm H2.out k _ fO 0 _ rfl;have y1 : css.flatten[k * 2 + 1]? = some (.slice A1 m1 d1) := fm H2.out k _ fO 1 _ rfl;have y2 : css.flatten[q * 2]? = some (.string s2) := fm H2.out q _ jj 0 _ rfl;have y3 : css.flatten[q * 2 + 1]? = some (.slice A2 m2 d2) := fm H2.out q _ jj 1 _ rfl;have sk : sw n k k = k := (by unfold sw; rw [if_neg (by omega)]);have sq : sw n k q = q := (by unfold sw; rw [if_neg (by omega)]);have x0 : xs[k * 2]? = some (Value.string s1) := (hx k 0 (by omega) (by omega)).trans (by rw [sk]; exact y0);have x1 : xs[k * 2 + 1]? = some (Value.slice A1 m1 d1) := (hx k 1 (by omega) (by omega)).trans (by rw [sk]; exact y1);have x2 : xs[q * 2]? = some (Value.string s2) := (hx q 0 (by omega) (by omega)).trans (by rw [sq]; exact y2);have x3 : xs[q * 2 + 1]? = some (Value.slice A2 m2 d2) := (hx q 1 (by omega) (by omega)).trans (by rw [sq]; exact y3);have z0 : wr.cell? ⟨g, k * 2, none⟩ = some (.string s1) := (by have := World.ownsRow.cells hown (g := g) rfl _ _ x0; rwa [jW, Nat.zero_add] at this);have z1 : wr.cell? ⟨g, k * 2 + 1, none⟩ = some (.slice A1 m1 d1) := (by have := World.ownsRow.cells hown (g := g) rfl _ _ x1; rwa [jW, Nat.zero_add] at this);have z2 : wr.cell? ⟨g, q * 2, none⟩ = some (.string s2) := (by have := World.ownsRow.cells hown (g := g) rfl _ _ x2; rwa [jW, Nat.zero_add] at this);have z3 : wr.cell? ⟨g, q * 2 + 1, none⟩ = some (.slice A2 m2 d2) := (by have := World.ownsRow.cells hown (g := g) rfl _ _ x3; rwa [jW, Nat.zero_add] at this);have f0 := World.ownsRow.frozenAt hown (k * 2)
  have f1 := World.ownsRow.frozenAt hown (k * 2 + 1);have f2 := World.ownsRow.frozenAt hown (q * 2);have f3 := World.ownsRow.frozenAt hown (q * 2 + 1);have hs := World.ownsRow.stored (World.ownsRow.stored (World.ownsRow.stored (World.ownsRow.stored hown (k * 2) (.string s2)).1 (k * 2 + 1) (.slice A2 m2 d2)).1 (q * 2) (.string s1)).1 (q * 2 + 1) (.slice A1 m1 d1);have Xw := (((wR.trans (World.ownsRow.stored hown (k * 2) (.string s2)).2).trans (World.ownsRow.stored (World.ownsRow.stored hown (k * 2) (.string s2)).1 (k * 2 + 1) (.slice A2 m2 d2)).2).trans (World.ownsRow.stored (World.ownsRow.stored (World.ownsRow.stored hown (k * 2) (.string s2)).1 (k * 2 + 1) (.slice A2 m2 d2)).1 (q * 2) (.string s1)).2).trans hs.2;have hM := Lib.hid (Fy VG hlt hown.1 hx y0 y1 y2 y3);have HS := Lib.hid hs.1;have HG := Lib.hid Xw;have ZF : ¬ k * 2 = q * 2 := (by omega);have abm : ¬ k * 2 = q * 2 + 1 := (by omega);have UQ : ¬ k * 2 + 1 = q * 2 := (by omega);have hkn : (k : Int) < (n : Int) := (by omega);have hqn : (q : Int) < (n : Int) := (by omega);clear hs Xw hx x0 x1 x2 x3 y0 y1 y2 y3 fO jj sk sq hown wR;go_wp2_with fail;go_region
  all_goals
    go_wp2_with fail
    refine ⟨⟨k + 1, q - 1, _, by omega, by omega, by go_num, by go_num, HS.out, ⟨HG.out.os, HG.out.tape, HG.out.output, HG.out.size, HG.out.block⟩, hM.out⟩, by simp [intOf]; omega⟩
 have HX := Lib.hid (Jn VG (by omega) HL.out H2.out hown.1 hx);have HW := Lib.hid hown;have HG := Lib.hid wR;clear hx hown wR;go_wp2_with fail;go_end0;rw [← HX.out];exact ⟨rfl, HW.out, HG.out⟩
theorem rG (A : Option Addr) (cap : Nat) (w : World) :
    Calls Tryz.prog 125 #[.slice A 0 cap] w fun e w' => e = .returned (.tuple #[]) ∧ w = w' := by
 go_enter Tryz.func125, Tryz.ntmps125;go_wp2_with fail;go_loopw [2, 3] (fun i j wr => i = .int .i64 0 ∧ j = .int .i64 (-1) ∧ wr = w) (fun _ _ _ => 0);(case atStart => exact ⟨rfl, rfl, rfl⟩);obtain ⟨rfl, rfl, rfl⟩ := hrel;go_wp2_with fail;go_end0;exact ⟨rfl, rfl⟩
end Go.Proofs.YthnhbcohfoodlaaGreatDoor
namespace Go.Proofs.YthnhbcohfoodlaaGreatDoor
open Go.RowKit Go.Maps
def qy (B lo : Nat) (w : World) (l : List ay) (e : Ending) : Prop :=
  ∃ cs ds : List Value, cs.length = 3 ∧ ds.length = 3 ∧ e = .returned (.tuple #[.agg cs.toArray, .agg ds.toArray, .agg #[.int .i64 (ct false l).2.1, .int .i64 (ct false l).2.2]]) ∧
    eK w (Fr B lo) (ct false l).1 cs ∧ eK w (Fr B lo) (ct true l).1 ds
theorem nO (w : World) (X : Nat → Prop) : eK w X jY [.bool false, .slice none 0 0, .slice none 0 0] :=
  ⟨_, _, rfl, ⟨none, 0, 0, rfl, ⟨rfl, fun h => absurd h (Nat.lt_irrefl 0)⟩, Nat.zero_le _⟩, ⟨none, 0, 0, rfl, ⟨[], rfl, rfl, by simp, by simp, rfl, fun h => absurd h (Nat.lt_irrefl 0)⟩, Nat.zero_le _⟩⟩
def jv (w : World) (cf cb cr : Array Value) (wx : World) : Prop :=
  au wx w.heap.size 53 cf ∧ au wx (w.heap.size + 1) 53 cb ∧ au wx (w.heap.size + 2) 25 cr ∧ Below w.heap.size w wx
theorem jv.below {w wx w2 : World} {cf cb cr : Array Value} (h : jv w cf cb cr wx) (hb : Below wx.heap.size wx w2) : jv w cf cb cr w2 :=
  ⟨au.below h.1 hb h.1.lt, au.below h.2.1 hb h.2.1.lt, au.below h.2.2.1 hb h.2.2.1.lt, h.2.2.2.trans (hb.mono h.2.2.2.size)⟩
theorem jv.made (w : World) : jv w aD aD #[.int .i64 0, .int .i64 0] (((w.alloc (.cells aD 53)).alloc (.cells aD 53)).alloc (.cells #[.int .i64 0, .int .i64 0] 25)) := by
 refine ⟨au.alloc (au.alloc (au.new _ _ _) _) _, ?_, ?_, (((Below.refl _ _).alloc (Nat.le_refl _) _).alloc (by simp) _).alloc (by simp; omega) _⟩
 ·have := au.alloc (au.new (w.alloc (.cells aD 53)) 53 aD) (.cells #[.int .i64 0, .int .i64 0] 25);simpa using this
 have := au.new ((w.alloc (.cells aD 53)).alloc (.cells aD 53)) 25 #[.int .i64 0, .int .i64 0];simpa using this
theorem sX (B : Nat) (A : Option Addr) (n c : Nat) (l : List ay) (w : World) (hn : n ≤ maxLen) (hB : B ≤ w.heap.size) (hl : rX w B A n l) (hw : (bN l).1 ≠ 0) :
    Calls Tryz.prog 73 #[.slice A n c] w fun e w' => qy B w.heap.size w' l e ∧ Below w.heap.size w w' := by
 have hrf : ∀ w', Below w.heap.size w w' → Calls Tryz.prog 30 #[.slice A n c] w' fun e w2 => e = .returned (.agg #[.int .i64 (bN l).1, .int .i64 (bN l).2]) ∧ Below w'.heap.size w' w2 :=
   fun w' hb => kY A n c l w' hn (rX.weak (dG (hb.mono hB) (Nat.le_trans hB hb.size)) hl)
 have hne : ((bN l).1 != 0) = true := (by simpa using hw);have hp1 := Lib.hid (jG (back := false) hw);have hp2 := Lib.hid (jG (back := true) hw);clear hw hl hn;generalize hF : bN l = F at *;obtain ⟨F1, F2⟩ := F;dsimp only at *;clear hF;have My := Lib.hid hrf;have gG := Lib.hid (jv.made w);clear hrf;go_enter Tryz.func73, Tryz.ntmps73;go_wp2_with fail;refine (My.out _ gG.out.2.2.2).mono ?_;rintro e w1 ⟨rfl, bt⟩;have hr := jv.below gG.out bt;have a0 : w1.cell? ⟨w.heap.size, 0, none⟩ = some (.bool false) := hr.1.cell 0;have a1 : w1.cell? ⟨w.heap.size, 1, none⟩ = some (.slice none 0 0) := hr.1.cell 1;have a2 : w1.cell? ⟨w.heap.size, 2, none⟩ = some (.slice none 0 0) := hr.1.cell 2;have b0 : w1.cell? ⟨w.heap.size + 1, 0, none⟩ = some (.bool false) := hr.2.1.cell 0;have b1 : w1.cell? ⟨w.heap.size + 1, 1, none⟩ = some (.slice none 0 0) := hr.2.1.cell 1;have b2 : w1.cell? ⟨w.heap.size + 1, 2, none⟩ = some (.slice none 0 0) := hr.2.1.cell 2;have c0 : w1.cell? ⟨w.heap.size + 2, 0, none⟩ = some (.int .i64 0) := hr.2.2.1.cell 0;have c1 : w1.cell? ⟨w.heap.size + 2, 1, none⟩ = some (.int .i64 0) := hr.2.2.1.cell 1;have d0 := hr.1.frozen 0;have d1 := hr.1.frozen 1;have d2 := hr.1.frozen 2;have d3 := hr.2.1.frozen 0;have d4 := hr.2.1.frozen 1;have d5 := hr.2.1.frozen 2;have d6 := hr.2.2.1.frozen 0;have d7 := hr.2.2.1.frozen 1;have HR := Lib.hid hr;clear bt hr;go_upto_region 3 with fail;have mB : jv w aD aD #[.int .i64 F1, .int .i64 F2] ((w1.setCell ⟨w.heap.size + 1 + 1, 0, none⟩ (.int .i64 F1)).setCell ⟨w.heap.size + 1 + 1, 1, none⟩ (.int .i64 F2)) := by
  obtain ⟨g1, g2, g3, g4⟩ := HR.out;refine ⟨aj (aj g1 (by omega)) (by omega), aj (aj g2 (by omega)) (by omega), ?_, (g4.setCell (by simp; omega) _).setCell (by simp; omega) _⟩;have := (g3.put 0 (.int .i64 F1)).put 1 (.int .i64 F2);simpa using this
 clear a0 a1 a2 b0 b1 b2 c0 c1 d0 d1 d2 d3 d4 d5 d6 d7 HR;generalize (w1.setCell ⟨w.heap.size + 1 + 1, 0, none⟩ (.int .i64 F1)).setCell ⟨w.heap.size + 1 + 1, 1, none⟩ (.int .i64 F2) = W3 at *;have a0 : W3.cell? ⟨w.heap.size, 0, none⟩ = some (.bool false) := mB.1.cell 0;have a1 : W3.cell? ⟨w.heap.size, 1, none⟩ = some (.slice none 0 0) := mB.1.cell 1;have a2 : W3.cell? ⟨w.heap.size, 2, none⟩ = some (.slice none 0 0) := mB.1.cell 2;have b0 : W3.cell? ⟨w.heap.size + 1, 0, none⟩ = some (.bool false) := mB.2.1.cell 0;have b1 : W3.cell? ⟨w.heap.size + 1, 1, none⟩ = some (.slice none 0 0) := mB.2.1.cell 1;have b2 : W3.cell? ⟨w.heap.size + 1, 2, none⟩ = some (.slice none 0 0) := mB.2.1.cell 2;have c0 : W3.cell? ⟨w.heap.size + 1 + 1, 0, none⟩ = some (.int .i64 F1) := mB.2.2.1.cell 0;have c1 : W3.cell? ⟨w.heap.size + 1 + 1, 1, none⟩ = some (.int .i64 F2) := mB.2.2.1.cell 1;have d0 := mB.1.frozen 0;have d1 := mB.1.frozen 1;have d2 := mB.1.frozen 2;have d3 := mB.2.1.frozen 0;have d4 := mB.2.1.frozen 1;have d5 := mB.2.1.frozen 2;have d6 : W3.frozen? ⟨w.heap.size + 1 + 1, 0, none⟩ = false := mB.2.2.1.frozen 0;have d7 : W3.frozen? ⟨w.heap.size + 1 + 1, 1, none⟩ = false := mB.2.2.1.frozen 1;have cE := Lib.hid mB.2.2.2;clear mB;go_region
 all_goals
   go_wp2_with fail
   have cR := (((((((cE.out.setCell (p := ⟨w.heap.size, 0, none⟩) (by simp) (.bool false)).setCell (p := ⟨w.heap.size, 1, none⟩) (by simp) (.slice none 0 0)).setCell (p := ⟨w.heap.size, 2, none⟩) (by simp) (.slice none 0 0)).setCell (p := ⟨w.heap.size + 1, 0, none⟩) (by simp) (.bool false)).setCell (p := ⟨w.heap.size + 1, 1, none⟩) (by simp) (.slice none 0 0)).setCell (p := ⟨w.heap.size + 1, 2, none⟩) (by simp) (.slice none 0 0)).setCell (p := ⟨w.heap.size + 1 + 1, 0, none⟩) (by simp; omega) (.int .i64 F1)).setCell (p := ⟨w.heap.size + 1 + 1, 1, none⟩) (by simp; omega) (.int .i64 F2)
   refine bodyPost_ret (v := .tuple #[.agg #[.bool false, .slice none 0 0, .slice none 0 0], .agg #[.bool false, .slice none 0 0, .slice none 0 0], .agg #[.int .i64 F1, .int .i64 F2]]) (by simp [results, Tryz.results73, go_sem, a0, a1, a2, b0, b1, b2, c0, c1]) rfl ⟨⟨[.bool false, .slice none 0 0, .slice none 0 0], [.bool false, .slice none 0 0, .slice none 0 0], rfl, rfl, by rw [hp1.out], by rw [hp1.out]; exact nO _ _, by rw [hp2.out]; exact nO _ _⟩, ?_⟩
   exact cR.drew
end Go.Proofs.YthnhbcohfoodlaaGreatDoor
