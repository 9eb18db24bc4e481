/- RdFile -/
import Derived.Test.YthnhbcohfoodlaaGreatDoorZq41
import Derived.Deep.CutRange
set_option maxHeartbeats 12800000
set_option maxRecDepth 100000
namespace Go.Proofs.YthnhbcohfoodlaaGreatDoor
open Go.RowKit
theorem uv {L : List Int} {f i : Nat} {l : List aZ} (h : pk L (aj L i) < 0) : ek L (f + 1) i l = .ok l := by rw [ek, if_pos h]
theorem qX {L : List Int} {f i : Nat} {l : List aZ} (h : ¬ pk L (aj L i) < 0) (h2 : l.length = 200) : ek L (f + 1) i l = .error (5, aj L i) := by rw [ek, if_neg h, if_pos h2]
theorem rD {L : List Int} {f i : Nat} {l : List aZ} {e : Int × Nat} (h : ¬ pk L (aj L i) < 0) (h2 : ¬ l.length = 200) (h3 : dy L (aj L i) = .error e) : ek L (f + 1) i l = .error e := by rw [ek, if_neg h, if_neg h2, h3]
theorem sG {L : List Int} {f i j : Nat} {l : List aZ} {p : aZ} {e : Int × Nat} (h : ¬ pk L (aj L i) < 0) (h2 : ¬ l.length = 200) (h3 : dy L (aj L i) = .ok (p, j)) (h4 : aH L (aj L j) 59 = .error e) : ek L (f + 1) i l = .error e := by rw [ek, if_neg h, if_neg h2, h3]; simp only; rw [h4]
theorem qY {L : List Int} {f i j k : Nat} {l : List aZ} {p : aZ} (h : ¬ pk L (aj L i) < 0) (h2 : ¬ l.length = 200) (h3 : dy L (aj L i) = .ok (p, j)) (h4 : aH L (aj L j) 59 = .ok k) : ek L (f + 1) i l = ek L f k (l ++ [p]) := by rw [ek, if_neg h, if_neg h2, h3]; simp only; rw [h4]
theorem lD {w : World} {X : Nat → Prop} {p : aZ} {cs : List Value} (h : bM w X p cs) : ∃ v0 v1 v2 v3 v4 v5 v6 v7 v8 v9 v10 v11 nL nI ni nh, cs = [v0, v1, v2, v3, v4, v5, v6, v7, v8, v9, v10, v11, nL, nI, ni, nh] := by
 obtain ⟨A', n', c', L1, a1, x1, L2, a2, x2, L3, a3, x3, R1, b1, y1, R2, b2, y2, R3, b3, y3, rfl⟩ := h.form;exact ⟨_, _, _, _, _, _, _, _, _, _, _, _, _, _, _, _, rfl⟩
theorem zQ (s : ByteArray) (w : World) (hs : s.size ≤ 1099511627776) :
    Calls Tryz.prog 21 #[.string s] w (uS w (fD (cq s 0))) := by
  obtain ⟨i0, qg, z0, z1, z2⟩ := info_parts uD
  have Fa : ∀ (fn : Fn) (first cap : Array Value) (w : World), (Instr.makeFunc fn first cap).run Tryz.prog w = .ok (.func fn first cap) w := fun _ _ _ _ => rfl
  have HD := Lib.hid (fun (W : World) => show Calls Tryz.prog 36 #[.string s] W fun e w' => ∃ v, e = .returned v ∧ gZ w' W.heap.size v (cq s 0) ∧ Below W.heap.size W w' from zR s W hs)
  have HV := Lib.hid (show cA (cq s 0) from jQ s)
  have Ui : (cq s 0).length ≤ s.size := by
    unfold cq
    rw [List.length_map]
    have := nZ s s.size 0 (by omega)
    omega
  generalize cq s 0 = L at *
  have gA := Lib.hid (show Below w.heap.size w ((w.alloc (.cells #[.slice none 0 0] 41)).alloc (.cells #[.int .i64 0, .int .i64 0] 25)) from ((Below.refl _ _).alloc (Nat.le_refl _) _).alloc (by simp) _)
  have iM := Lib.hid (show aM ((w.alloc (.cells #[.slice none 0 0] 41)).alloc (.cells #[.int .i64 0, .int .i64 0] 25)) w.heap.size 41 #[.slice none 0 0] from (aM.new w _ _).alloc _)
  have lC := Lib.hid (show aM ((w.alloc (.cells #[.slice none 0 0] 41)).alloc (.cells #[.int .i64 0, .int .i64 0] 25)) (w.heap.size + 1) 25 #[.int .i64 0, .int .i64 0] from by
    have := aM.new (w.alloc (.cells #[.slice none 0 0] 41)) 25 #[.int .i64 0, .int .i64 0]
    simpa using this)
  have OV := Lib.hid (show w.heap.size + 2 ≤ ((w.alloc (.cells #[.slice none 0 0] 41)).alloc (.cells #[.int .i64 0, .int .i64 0] 25)).heap.size by simp)
  go_enter_defers Tryz.func21, Tryz.ntmps21
  go_wp2_with fail
  refine (HD.out _).mono ?_
  rintro e w1 ⟨v, rfl, ho, hb⟩
  have b8 := Lib.hid (gA.out.trans (hb.mono gA.out.size))
  have fX := Lib.hid (iM.out.below hb iM.out.lt)
  have dP := Lib.hid (lC.out.below hb lC.out.lt)
  have kR : w.heap.size + 2 ≤ w1.heap.size := Nat.le_trans OV.out hb.size
  obtain ⟨n, hn⟩ : ∃ n, L.length = n := ⟨_, rfl⟩
  unfold gZ at ho
  rw [hn] at ho
  have OC : n ≤ 4611686018427387904 := by omega
  obtain ⟨A, c, rfl, hnc⟩ := aP ho
  have hrow : di (w1.alloc (.cells #[.slice A n c, .int .i64 0] 92)) (fun b => w.heap.size + 2 ≤ b ∧ b < w1.heap.size) 1 A n (ax L) :=
    (di.fk (X := fun b => w.heap.size + 2 ≤ b ∧ b < w1.heap.size) ho (fun b hb => ⟨Nat.le_trans OV.out (eB ho hb).1, (eB ho hb).2⟩)).keep (aC.alloc _ (fun b hb _ => hb))
  have tS := Lib.hid (show qB w w1.heap.size A n c L (w1.alloc (.cells #[.slice A n c, .int .i64 0] 92)) 0 (.slice none 0 0) [] from
    ⟨⟨⟨_, aM.new _ _ _⟩, hrow.lift (fun b h => by have := h.2; omega), OC, Nat.zero_le _, hnc⟩, hrow, fX.out.alloc _, dP.out.alloc _, dS.nil _ _ _, b8.out.alloc b8.out.size _, kR⟩)
  have hC : w1.heap.size + 1 ≤ (w1.alloc (.cells #[.slice A n c, .int .i64 0] 92)).heap.size := by simp
  have KM := Lib.hid hn
  clear ho hb HD iM lC gA OV hrow b8 fX dP
  go_upto_region 4 with fail
  generalize w1.alloc (.cells #[.slice A n c, .int .i64 0] 92) = w2 at *
  generalize w1.heap.size = C at *
  have c0 := tS.out.cur.cX.cell 0
  by_cases rP : 16000 < n
  · have fy := Lib.hid (lu (L := L) (by rw [hn]; exact rP))
    have Tw := Lib.hid (fun (W : World) => bW 4 0 W)
    clear hn
    go_wp2_with fail
    refine (Tw.out _).mono ?_
    rintro e w3 ⟨rfl, rfl⟩
    go_wp2_with fail
    refine fL _ (w.heap.size + 1) w.heap.size w.heap.size 4 0 0 0 _ _ _ _ _ rfl rfl tS.out.flt tS.out.res (by omega) (by omega) (Nat.le_refl _) tS.out.below.size (by decide) (fun W2 aU => ?_)
    rw [fy.out]
    exact ⟨⟨none, 0, 0, rfl, ej.nil _ _, Nat.le_refl _⟩, tS.out.below.trans aU⟩
  · have nV := Lib.hid (show ¬ 16000 < L.length from fun h => rP (by rw [← hn]; exact h))
    have S1 : n ≤ 16000 := by omega
    have fR := Lib.hid (fun (W : World) (m : Nat) (h : au W C A n c L m) => cy W C A n c L m h)
    have pW := Lib.hid (fun (W : World) (m : Nat) (h : au W C A n c L m) => iu W C A n c L m h)
    have um := Lib.hid (fun (W : World) (m : Nat) (r : Int) (h : au W C A n c L m) (hr : r ≠ -1) => eA W C A n c L m r h hr)
    have mX := Lib.hid (fun (W : World) (m : Nat) (h : au W C A n c L m) => FM W C A n c L m h HV.out (by omega))
    obtain ⟨R0, Fj⟩ : ∃ R0, ek L (L.length + 1) 0 [] = R0 := ⟨_, rfl⟩
    have fm := Lib.hid (fun (x : Int) (p : Nat) (h : R0 = .error (x, p)) => show fD L = ([], (x, (p : Int))) from nj nV.out (Fj.trans h))
    have Rv := Lib.hid (fun (x : Int) (p : Nat) (h : R0 = .error (x, p)) => show x ≠ 0 from CA L _ _ _ _ _ (Fj.trans h))
    have EF := Lib.hid (fun (l : List aZ) (h : R0 = .ok l) => show fD L = (l, (0, 0)) from oM nV.out (Fj.trans h))
    have iM := Lib.hid Fj
    generalize fD L = RP at *
    have Iq : decide ((16000 : Int) < (n : Int)) = false := decide_eq_false (by omega)
    clear hn Fj rP
    go_wp2_with fail
    refine (pW.out _ 0 tS.out.cur).mono ?_
    rintro e w3 ⟨rfl, eC, bN⟩
    have eI := Lib.hid (tS.out.step eC bN)
    have Ud : C + 1 ≤ w3.heap.size := Nat.le_trans hC bN.1
    clear eC bN c0 Iq hC
    go_wp2_with fail
    go_loopw [25] (fun _ wr => ∃ (f j : Nat) (acc : List aZ) (v : Value), j ≤ n ∧ n + 1 ≤ f + j ∧ R0 = ek L f j acc ∧ acc.length ≤ 200 ∧ qB w C A n c L wr (aj L j) v acc ∧ C + 1 ≤ wr.heap.size) (fun _ wr => n - (match wr.cell? ⟨C, 1, none⟩ with | some (.int _ j) => j.toNat | _ => 0))
    case atStart => exact ⟨L.length + 1, 0, [], _, Nat.zero_le _, by have := KM.out; omega, iM.out.symm, Nat.zero_le _, eI.out, Ud⟩
    case round =>
      obtain ⟨f0, j, acc, v, hj, hf, bz, Fz, hfl, SW⟩ := hrel
      obtain ⟨f, rfl⟩ : ∃ f, f0 = f + 1 := ⟨f0 - 1, by omega⟩
      obtain ⟨a, ha⟩ : ∃ a, aj L j = a := ⟨_, rfl⟩
      have Ob : j ≤ a := by rw [← ha]; exact b7 L j
      have iz := Lib.hid bz
      have HA := Lib.hid ha
      rw [ha] at hfl
      have tS := Lib.hid hfl
      have gT := Lib.hid (hfl.cur.cX.cell 1)
      have Ag := hfl.cur.le
      obtain ⟨Av, cv, rfl, kr⟩ := hfl.own.form
      clear bz ha hfl
      go_wp2_with fail
      refine (fR.out _ a tS.out.cur).mono ?_
      rintro e w4 ⟨rfl, gB, eR⟩
      have ee := Lib.hid (tS.out.step gB eR)
      have O4 : C + 1 ≤ w4.heap.size := Nat.le_trans SW eR.1
      clear gB eR
      have r4 := ee.out.res.cell 0
      by_cases hneg : pk L a < 0
      · have hg : decide ((0 : Int) ≤ pk L a) = false := decide_eq_false (by omega)
        have fy := Lib.hid (EF.out acc (iz.out.trans (uv (by rw [HA.out]; exact hneg))))
        clear hneg
        go_wp2_with fail
        have r5 := ee.out.res.frozen 0
        have s4 := ee.out.flt.cell 0
        have s5 := ee.out.flt.cell 1
        have s6 := ee.out.flt.frozen 0
        have s7 := ee.out.flt.frozen 1
        go_region
        obtain ⟨R7, Rg, RC⟩ := vJ (m := 1) ee.out.res ee.out.flt (show w.heap.size ≠ w.heap.size + 1 by omega)
        obtain ⟨RS, Re⟩ := RC w.heap.size (Nat.le_refl _) (by omega) ee.out.below.size
        have hW : (((w4.setCell { block := w.heap.size, off := 0 } (Value.slice Av acc.length cv)).setCell { block := w.heap.size + 1, off := 0 } (Value.int IntKind.i64 0)).setCell { block := w.heap.size + 1, off := 1 } (Value.int IntKind.i64 0)).drew = (((w4.drewN 1).setCell { block := w.heap.size, off := 0 } (Value.slice Av acc.length cv)).setCell { block := w.heap.size + 1, off := 0 } (Value.int IntKind.i64 0)).setCell { block := w.heap.size + 1, off := 1 } (Value.int IntKind.i64 0) := rfl
        rw [hW]
        have Ks := ee.out.hC
        have mR := Lib.hid R7
        have SX := Lib.hid Rg
        have wS := Lib.hid (ee.out.below.trans RS)
        have hpx := ee.out.own.done
        have NX := Lib.hid (show aC w4 (fun b => C + 1 ≤ b) _ (fun b => w.heap.size ≤ b) from fun b hb hl => let ⟨e, _, h2⟩ := Re b ⟨by omega, by omega⟩ hl; ⟨e, by omega, h2⟩)
        have nQ := Lib.hid (hpx.keep NX.out)
        clear R7 Rg RC RS Re r4 r5 s4 s5 s6 s7 NX hpx hW
        generalize (((w4.drewN 1).setCell { block := w.heap.size, off := 0 } (Value.slice Av acc.length cv)).setCell { block := w.heap.size + 1, off := 0 } (Value.int IntKind.i64 0)).setCell { block := w.heap.size + 1, off := 1 } (Value.int IntKind.i64 0) = w9 at *
        go_wp2_with fail
        refine tA _ (w.heap.size + 1) w.heap.size 0 (.slice Av acc.length cv) _ _ w9 _ rfl rfl SX.out mR.out ?_
        rw [fy.out]
        exact ⟨⟨Av, _, cv, rfl, nQ.out, kr⟩, wS.out⟩
      · have hg : decide ((0 : Int) ≤ pk L a) = true := decide_eq_true (by omega)
        have Oi := Lib.hid hneg
        by_cases hm : acc.length = 200
        · have HE := Lib.hid (iz.out.trans (qX (by rw [HA.out]; exact hneg) hm))
          have sF := Lib.hid (show R0 = .error (5, a) by rw [HE.out, HA.out])
          have fy := Lib.hid (fm.out 5 a sF.out)
          have y4 := ee.out.cur.cX.cell 1
          rw [hm] at r4
          clear hneg
          go_wp2_with fail
          refine (bW 5 a _).mono ?_
          rintro e w5 ⟨rfl, rfl⟩
          go_wp2_with fail
          refine fL _ (w.heap.size + 1) w.heap.size w.heap.size 5 a 0 0 _ _ _ _ _ rfl rfl ee.out.flt ee.out.res (by omega) (by omega) (Nat.le_refl _) ee.out.below.size (by decide) (fun W2 aU => ?_)
          rw [fy.out]
          exact ⟨⟨none, 0, 0, rfl, ej.nil _ _, Nat.le_refl _⟩, ee.out.below.trans aU⟩
        · have hm2 : ¬ (acc.length : Int) = 200 := by omega
          have qm : ((acc.length : Int) == 200) = false := by rw [beq_eq_false_iff_ne]; exact hm2
          have HM := Lib.hid hm
          clear hm hm2
          generalize wV : acc.length = al at *
          cases hp : dy L a with
          | error e0 =>
            obtain ⟨x, p⟩ := e0
            have HE := Lib.hid (iz.out.trans (rD (by rw [HA.out]; exact hneg) (by rw [wV]; exact HM.out) (by rw [HA.out]; exact hp)))
            have fy := Lib.hid (fm.out x p HE.out)
            have hx := Rv.out x p HE.out
            have EZ := Lib.hid (fun (W : World) (h : au W C A n c L a) => show Calls Tryz.prog 58 #[.pointer (some ⟨C, 0, none⟩)] W (pg W C A n c L (.error (x, p))) by have := mX.out W a h; rwa [hp] at this)
            clear hp hneg
            go_upto_region 11 with fail
            have gQ := Lib.hid (ee.out.on (ah (Below.refl w4.heap.size w4)))
            have Ks := ee.out.hC
            -- {err
            refine aD (S := fun _ => True) [] (by kernel_rfl) trivial (fun _ => ?_)
            refine ef (i := 0) (j := 1) (o := ⟨some 37, _, _, _, _, _⟩) (o2 := ⟨some 38, _, _, _, _, _⟩) (by kernel_rfl) rfl rfl (fun K hK => ?_) (fun K hK => ?_)
            · go_simp
              try dsimp only
              refine hK.out _ _ trivial (fun _ => ?_)
              clear hK K
              try simp only [Act.put, List.setIfInBounds_toArray, List.set_cons_zero, List.set_cons_succ]
              refine aA (i := 1) (o := ⟨some 38, _, _, _, _, _⟩) (by kernel_rfl) rfl (fun K hK => ?_)
              go_simp
              try dsimp only
              refine hK.out _ _ trivial (fun _ => ?_)
              clear hK K
              try simp only [Act.put, List.setIfInBounds_toArray, List.set_cons_zero, List.set_cons_succ]
              refine aA (i := 2) (o := ⟨some 39, _, _, _, _, _⟩) (by kernel_rfl) rfl (fun K hK => ?_)
              go_simp
              go_at_call 58
              refine (EZ.out _ gQ.out.cur).mono ?_
              rintro e w5 ⟨he, cr⟩
              unfold aX at he
              subst he
              have Ht := (cr.2.2.2.2 _ gQ.out.res.lt (by omega)).trans gQ.out.res
              have Dp := (cr.2.2.2.2 _ gQ.out.flt.lt (by omega)).trans gQ.out.flt
              have J2 := Lib.hid Ht
              have eo := Lib.hid Dp
              have dM := Lib.hid (gQ.out.below.trans (cr.to gQ.out.below.size (by omega)))
              clear cr Ht Dp
              go_wp2_with fail
              refine fL _ (w.heap.size + 1) w.heap.size w.heap.size x p 0 0 _ _ _ _ _ rfl rfl eo.out J2.out (by omega) (by omega) (Nat.le_refl _) dM.out.size hx (fun W2 aU => ?_)
              rw [fy.out]
              exact ⟨⟨none, 0, 0, rfl, ej.nil _ _, Nat.le_refl _⟩, dM.out.trans aU⟩
            · go_simp
              try dsimp only
              refine hK.out _ _ trivial (fun _ => ?_)
              clear hK K
              try simp only [Act.put, List.setIfInBounds_toArray, List.set_cons_zero, List.set_cons_succ]
              refine ef (i := 0) (j := 2) (o := ⟨some 37, _, _, _, _, _⟩) (o2 := ⟨some 39, _, _, _, _, _⟩) (by kernel_rfl) rfl rfl (fun K hK => ?_) (fun K hK => ?_)
              · go_simp
                try dsimp only
                refine hK.out _ _ trivial (fun _ => ?_)
                clear hK K
                try simp only [Act.put, List.setIfInBounds_toArray, List.set_cons_zero, List.set_cons_succ]
                refine aA (i := 2) (o := ⟨some 39, _, _, _, _, _⟩) (by kernel_rfl) rfl (fun K hK => ?_)
                go_simp
                go_at_call 58
                refine (EZ.out _ gQ.out.cur).mono ?_
                rintro e w5 ⟨he, cr⟩
                unfold aX at he
                subst he
                have Ht := (cr.2.2.2.2 _ gQ.out.res.lt (by omega)).trans gQ.out.res
                have Dp := (cr.2.2.2.2 _ gQ.out.flt.lt (by omega)).trans gQ.out.flt
                have J2 := Lib.hid Ht
                have eo := Lib.hid Dp
                have dM := Lib.hid (gQ.out.below.trans (cr.to gQ.out.below.size (by omega)))
                clear cr Ht Dp
                go_wp2_with fail
                refine fL _ (w.heap.size + 1) w.heap.size w.heap.size x p 0 0 _ _ _ _ _ rfl rfl eo.out J2.out (by omega) (by omega) (Nat.le_refl _) dM.out.size hx (fun W2 aU => ?_)
                rw [fy.out]
                exact ⟨⟨none, 0, 0, rfl, ej.nil _ _, Nat.le_refl _⟩, dM.out.trans aU⟩
              · go_simp
                go_at_call 58
                refine (EZ.out _ gQ.out.cur).mono ?_
                rintro e w5 ⟨he, cr⟩
                unfold aX at he
                subst he
                have Ht := (cr.2.2.2.2 _ gQ.out.res.lt (by omega)).trans gQ.out.res
                have Dp := (cr.2.2.2.2 _ gQ.out.flt.lt (by omega)).trans gQ.out.flt
                have J2 := Lib.hid Ht
                have eo := Lib.hid Dp
                have dM := Lib.hid (gQ.out.below.trans (cr.to gQ.out.below.size (by omega)))
                clear cr Ht Dp
                go_wp2_with fail
                refine fL _ (w.heap.size + 1) w.heap.size w.heap.size x p 0 0 _ _ _ _ _ rfl rfl eo.out J2.out (by omega) (by omega) (Nat.le_refl _) dM.out.size hx (fun W2 aU => ?_)
                rw [fy.out]
                exact ⟨⟨none, 0, 0, rfl, ej.nil _ _, Nat.le_refl _⟩, dM.out.trans aU⟩
            -- err}
          | ok q =>
            obtain ⟨p, j2⟩ := q
            have EZ := Lib.hid (fun (W : World) (h : au W C A n c L a) => show Calls Tryz.prog 58 #[.pointer (some ⟨C, 0, none⟩)] W (pg W C A n c L (.ok (p, j2))) by have := mX.out W a h; rwa [hp] at this)
            have HP := Lib.hid hp
            have gQ := Lib.hid (ee.out.on (ah (Below.refl w4.heap.size w4)))
            have Ks := ee.out.hC
            have QI := Lib.hid (fun (b : Nat) (hb : w4.heap.size ≤ b) => ee.out.own.apart hb)
            have qv := Lib.hid (show (acc ++ [p]).length = al + 1 by rw [List.length_append, wV]; rfl)
            clear hp hneg
            go_upto_region 11 with fail
            go_cut [] from 21 to 47 (fun wx => ∃ v' : Value, qB w C A n c L wx j2 v' (acc ++ [p]) ∧ C + 1 ≤ wx.heap.size)
            case first =>
              -- {ok
              refine aD (S := fun _ => True) [] (by kernel_rfl) trivial (fun _ => ?_)
              refine ef (i := 0) (j := 1) (o := ⟨some 37, _, _, _, _, _⟩) (o2 := ⟨some 38, _, _, _, _, _⟩) (by kernel_rfl) rfl rfl (fun K hK => ?_) (fun K hK => ?_)
              · go_simp
                try dsimp only
                refine hK.out _ _ trivial (fun _ => ?_)
                clear hK K
                try simp only [Act.put, List.setIfInBounds_toArray, List.set_cons_zero, List.set_cons_succ]
                refine aA (i := 1) (o := ⟨some 38, _, _, _, _, _⟩) (by kernel_rfl) rfl (fun K hK => ?_)
                go_simp
                try dsimp only
                refine hK.out _ _ trivial (fun _ => ?_)
                clear hK K
                try simp only [Act.put, List.setIfInBounds_toArray, List.set_cons_zero, List.set_cons_succ]
                refine aA (i := 2) (o := ⟨some 39, _, _, _, _, _⟩) (by kernel_rfl) rfl (fun K hK => ?_)
                go_simp
                go_at_call 58
                refine (EZ.out _ gQ.out.cur).mono ?_
                rintro e w5 ⟨⟨cs, rfl, hpx⟩, eV, cr⟩
                obtain ⟨v0, v1, v2, v3, v4, v5, v6, v7, v8, v9, v10, v11, nL, nI, ni, nh, rfl⟩ := lD hpx
                have eo := Lib.hid (gQ.out.step eV cr)
                have KF : C + 1 ≤ w5.heap.size := Nat.le_trans O4 cr.1
                have nQ := Lib.hid (bM.keep (X' := ku (C + 1) C (.slice Av al cv)) (show aC w5 (iN w4.drew C) w5 (ku (C + 1) C (.slice Av al cv)) from fun b h hl => ⟨rfl, ⟨by have := h.1; have h0 : w4.drew.heap.size = w4.heap.size := rfl; omega, h.2, QI.out b (Nat.le_of_lt h.1)⟩, hl⟩) hpx)
                have r5 := eo.out.res.cell 0
                clear hpx eV cr
                try dsimp only
                refine hK.out _ _ trivial (fun _ => ?_)
                clear hK K
                try simp only [Act.put, List.setIfInBounds_toArray, List.set_cons_zero, List.set_cons_succ]
                refine aA (i := 3) (o := ⟨some 40, _, _, _, _, _⟩) (by kernel_rfl) rfl (fun K hK => ?_)
                have bB : Below w5.heap.size w5 (w5.alloc (.cells #[v0, v1, v2, v3, v4, v5, v6, v7, v8, v9, v10, v11, nL, nI, ni, nh] 98)) := (Below.refl _ _).alloc (Nat.le_refl _) _
                have oU := Lib.hid (eo.out.on bB)
                have CZ := Lib.hid (nQ.out.keep (aC.any bB))
                obtain ⟨ys, bu, bh⟩ := oU.out.own.push p CZ.out
                rw [wV] at bu bh
                have gO := Lib.hid bu
                have jA := Lib.hid bh
                have j5 := Lib.hid (Rd.new w5 98 16 1 [v0, v1, v2, v3, v4, v5, v6, v7, v8, v9, v10, v11, nL, nI, ni, nh] rfl)
                have fU := Lib.hid nQ.out.one.2
                have hsz : C + 1 ≤ (w5.alloc (.cells #[v0, v1, v2, v3, v4, v5, v6, v7, v8, v9, v10, v11, nL, nI, ni, nh] 98)).heap.size := Nat.le_trans KF bB.size
                have r8 : (w5.alloc (.cells #[v0, v1, v2, v3, v4, v5, v6, v7, v8, v9, v10, v11, nL, nI, ni, nh] 98)).cell? ⟨w.heap.size, 0, none⟩ = some (.slice Av al cv) := oU.out.res.cell 0
                clear bB bu bh
                go_simp
                try dsimp only
                refine hK.out _ _ trivial (fun _ => ?_)
                clear hK K
                try simp only [Act.put, List.setIfInBounds_toArray, List.set_cons_zero, List.set_cons_succ]
                refine aA (i := 4) (o := ⟨some 41, _, _, _, _, _⟩) (by kernel_rfl) rfl (fun K hK => ?_)
                refine aL _ rfl (.tmp 37) (.tmp 40) 41 rfl (C + 1) 98 i0 _ 16 232 Tryz.underlying41 qg z0 z1 z2 rfl (by decide) _ _ _ rfl gO.out (w5.heap.size + 1) (some ⟨w5.heap.size, 0, none⟩) 1 1 [v0, v1, v2, v3, v4, v5, v6, v7, v8, v9, v10, v11, nL, nI, ni, nh] rfl j5.out fU.out (by simp only [maxLen]; omega) (by omega) hsz ?_
                intro v' w9 an
                obtain ⟨A9, c9, CV, _⟩ := (jA.out v' w9 an).form
                rw [qv.out] at CV
                subst CV
                have jn := Lib.hid (oU.out.push gO.out an (jA.out _ w9 an) hsz)
                have bI := an.below hsz gO.out
                have x9 : w9.cell? ⟨w.heap.size, 0, none⟩ = some (.slice Av al cv) := (bI.cell (p := ⟨w.heap.size, 0, none⟩) (show w.heap.size < C + 1 by omega)).trans (oU.out.res.cell 0)
                have DZ : aM w9 w.heap.size 41 #[.slice Av al cv] := (bI.block w.heap.size (by omega)).trans oU.out.res
                have y9 := DZ.frozen 0
                have FQ := bI.size
                clear an
                try dsimp only
                refine hK.out _ _ trivial (fun _ => ?_)
                clear hK K
                try simp only [Act.put, List.setIfInBounds_toArray, List.set_cons_zero, List.set_cons_succ]
                refine aA (i := 5) (by kernel_rfl) rfl (fun K hK => ?_)
                go_simp
                try dsimp only
                refine hK.out _ _ trivial (fun _ => ?_)
                clear hK K
                try simp only [Act.put, List.setIfInBounds_toArray, List.set_cons_zero, List.set_cons_succ]
                refine aN (by kernel_rfl) ?_ _
                go_wp2_with fail
                go_meet
                exact ⟨_, jn.out, by simpa using Nat.le_trans hsz FQ⟩
              · go_simp
                try dsimp only
                refine hK.out _ _ trivial (fun _ => ?_)
                clear hK K
                try simp only [Act.put, List.setIfInBounds_toArray, List.set_cons_zero, List.set_cons_succ]
                refine ef (i := 0) (j := 2) (o := ⟨some 37, _, _, _, _, _⟩) (o2 := ⟨some 39, _, _, _, _, _⟩) (by kernel_rfl) rfl rfl (fun K hK => ?_) (fun K hK => ?_)
                · go_simp
                  try dsimp only
                  refine hK.out _ _ trivial (fun _ => ?_)
                  clear hK K
                  try simp only [Act.put, List.setIfInBounds_toArray, List.set_cons_zero, List.set_cons_succ]
                  refine aA (i := 2) (o := ⟨some 39, _, _, _, _, _⟩) (by kernel_rfl) rfl (fun K hK => ?_)
                  go_simp
                  go_at_call 58
                  refine (EZ.out _ gQ.out.cur).mono ?_
                  rintro e w5 ⟨⟨cs, rfl, hpx⟩, eV, cr⟩
                  obtain ⟨v0, v1, v2, v3, v4, v5, v6, v7, v8, v9, v10, v11, nL, nI, ni, nh, rfl⟩ := lD hpx
                  have eo := Lib.hid (gQ.out.step eV cr)
                  have KF : C + 1 ≤ w5.heap.size := Nat.le_trans O4 cr.1
                  have nQ := Lib.hid (bM.keep (X' := ku (C + 1) C (.slice Av al cv)) (show aC w5 (iN w4.drew C) w5 (ku (C + 1) C (.slice Av al cv)) from fun b h hl => ⟨rfl, ⟨by have := h.1; have h0 : w4.drew.heap.size = w4.heap.size := rfl; omega, h.2, QI.out b (Nat.le_of_lt h.1)⟩, hl⟩) hpx)
                  have r5 := eo.out.res.cell 0
                  clear hpx eV cr
                  try dsimp only
                  refine hK.out _ _ trivial (fun _ => ?_)
                  clear hK K
                  try simp only [Act.put, List.setIfInBounds_toArray, List.set_cons_zero, List.set_cons_succ]
                  refine aA (i := 3) (o := ⟨some 40, _, _, _, _, _⟩) (by kernel_rfl) rfl (fun K hK => ?_)
                  have bB : Below w5.heap.size w5 (w5.alloc (.cells #[v0, v1, v2, v3, v4, v5, v6, v7, v8, v9, v10, v11, nL, nI, ni, nh] 98)) := (Below.refl _ _).alloc (Nat.le_refl _) _
                  have oU := Lib.hid (eo.out.on bB)
                  have CZ := Lib.hid (nQ.out.keep (aC.any bB))
                  obtain ⟨ys, bu, bh⟩ := oU.out.own.push p CZ.out
                  rw [wV] at bu bh
                  have gO := Lib.hid bu
                  have jA := Lib.hid bh
                  have j5 := Lib.hid (Rd.new w5 98 16 1 [v0, v1, v2, v3, v4, v5, v6, v7, v8, v9, v10, v11, nL, nI, ni, nh] rfl)
                  have fU := Lib.hid nQ.out.one.2
                  have hsz : C + 1 ≤ (w5.alloc (.cells #[v0, v1, v2, v3, v4, v5, v6, v7, v8, v9, v10, v11, nL, nI, ni, nh] 98)).heap.size := Nat.le_trans KF bB.size
                  have r8 : (w5.alloc (.cells #[v0, v1, v2, v3, v4, v5, v6, v7, v8, v9, v10, v11, nL, nI, ni, nh] 98)).cell? ⟨w.heap.size, 0, none⟩ = some (.slice Av al cv) := oU.out.res.cell 0
                  clear bB bu bh
                  go_simp
                  try dsimp only
                  refine hK.out _ _ trivial (fun _ => ?_)
                  clear hK K
                  try simp only [Act.put, List.setIfInBounds_toArray, List.set_cons_zero, List.set_cons_succ]
                  refine aA (i := 4) (o := ⟨some 41, _, _, _, _, _⟩) (by kernel_rfl) rfl (fun K hK => ?_)
                  refine aL _ rfl (.tmp 37) (.tmp 40) 41 rfl (C + 1) 98 i0 _ 16 232 Tryz.underlying41 qg z0 z1 z2 rfl (by decide) _ _ _ rfl gO.out (w5.heap.size + 1) (some ⟨w5.heap.size, 0, none⟩) 1 1 [v0, v1, v2, v3, v4, v5, v6, v7, v8, v9, v10, v11, nL, nI, ni, nh] rfl j5.out fU.out (by simp only [maxLen]; omega) (by omega) hsz ?_
                  intro v' w9 an
                  obtain ⟨A9, c9, CV, _⟩ := (jA.out v' w9 an).form
                  rw [qv.out] at CV
                  subst CV
                  have jn := Lib.hid (oU.out.push gO.out an (jA.out _ w9 an) hsz)
                  have bI := an.below hsz gO.out
                  have x9 : w9.cell? ⟨w.heap.size, 0, none⟩ = some (.slice Av al cv) := (bI.cell (p := ⟨w.heap.size, 0, none⟩) (show w.heap.size < C + 1 by omega)).trans (oU.out.res.cell 0)
                  have DZ : aM w9 w.heap.size 41 #[.slice Av al cv] := (bI.block w.heap.size (by omega)).trans oU.out.res
                  have y9 := DZ.frozen 0
                  have FQ := bI.size
                  clear an
                  try dsimp only
                  refine hK.out _ _ trivial (fun _ => ?_)
                  clear hK K
                  try simp only [Act.put, List.setIfInBounds_toArray, List.set_cons_zero, List.set_cons_succ]
                  refine aA (i := 5) (by kernel_rfl) rfl (fun K hK => ?_)
                  go_simp
                  try dsimp only
                  refine hK.out _ _ trivial (fun _ => ?_)
                  clear hK K
                  try simp only [Act.put, List.setIfInBounds_toArray, List.set_cons_zero, List.set_cons_succ]
                  refine aN (by kernel_rfl) ?_ _
                  go_wp2_with fail
                  go_meet
                  exact ⟨_, jn.out, by simpa using Nat.le_trans hsz FQ⟩
                · go_simp
                  go_at_call 58
                  refine (EZ.out _ gQ.out.cur).mono ?_
                  rintro e w5 ⟨⟨cs, rfl, hpx⟩, eV, cr⟩
                  obtain ⟨v0, v1, v2, v3, v4, v5, v6, v7, v8, v9, v10, v11, nL, nI, ni, nh, rfl⟩ := lD hpx
                  have eo := Lib.hid (gQ.out.step eV cr)
                  have KF : C + 1 ≤ w5.heap.size := Nat.le_trans O4 cr.1
                  have nQ := Lib.hid (bM.keep (X' := ku (C + 1) C (.slice Av al cv)) (show aC w5 (iN w4.drew C) w5 (ku (C + 1) C (.slice Av al cv)) from fun b h hl => ⟨rfl, ⟨by have := h.1; have h0 : w4.drew.heap.size = w4.heap.size := rfl; omega, h.2, QI.out b (Nat.le_of_lt h.1)⟩, hl⟩) hpx)
                  have r5 := eo.out.res.cell 0
                  clear hpx eV cr
                  try dsimp only
                  refine hK.out _ _ trivial (fun _ => ?_)
                  clear hK K
                  try simp only [Act.put, List.setIfInBounds_toArray, List.set_cons_zero, List.set_cons_succ]
                  refine ef (i := 0) (j := 3) (o := ⟨some 37, _, _, _, _, _⟩) (o2 := ⟨some 40, _, _, _, _, _⟩) (by kernel_rfl) rfl rfl (fun K hK => ?_) (fun K hK => ?_)
                  · go_simp
                    try dsimp only
                    refine hK.out _ _ trivial (fun _ => ?_)
                    clear hK K
                    try simp only [Act.put, List.setIfInBounds_toArray, List.set_cons_zero, List.set_cons_succ]
                    refine aA (i := 3) (o := ⟨some 40, _, _, _, _, _⟩) (by kernel_rfl) rfl (fun K hK => ?_)
                    have bB : Below w5.heap.size w5 (w5.alloc (.cells #[v0, v1, v2, v3, v4, v5, v6, v7, v8, v9, v10, v11, nL, nI, ni, nh] 98)) := (Below.refl _ _).alloc (Nat.le_refl _) _
                    have oU := Lib.hid (eo.out.on bB)
                    have CZ := Lib.hid (nQ.out.keep (aC.any bB))
                    obtain ⟨ys, bu, bh⟩ := oU.out.own.push p CZ.out
                    rw [wV] at bu bh
                    have gO := Lib.hid bu
                    have jA := Lib.hid bh
                    have j5 := Lib.hid (Rd.new w5 98 16 1 [v0, v1, v2, v3, v4, v5, v6, v7, v8, v9, v10, v11, nL, nI, ni, nh] rfl)
                    have fU := Lib.hid nQ.out.one.2
                    have hsz : C + 1 ≤ (w5.alloc (.cells #[v0, v1, v2, v3, v4, v5, v6, v7, v8, v9, v10, v11, nL, nI, ni, nh] 98)).heap.size := Nat.le_trans KF bB.size
                    have r8 : (w5.alloc (.cells #[v0, v1, v2, v3, v4, v5, v6, v7, v8, v9, v10, v11, nL, nI, ni, nh] 98)).cell? ⟨w.heap.size, 0, none⟩ = some (.slice Av al cv) := oU.out.res.cell 0
                    clear bB bu bh
                    go_simp
                    try dsimp only
                    refine hK.out _ _ trivial (fun _ => ?_)
                    clear hK K
                    try simp only [Act.put, List.setIfInBounds_toArray, List.set_cons_zero, List.set_cons_succ]
                    refine aA (i := 4) (o := ⟨some 41, _, _, _, _, _⟩) (by kernel_rfl) rfl (fun K hK => ?_)
                    refine aL _ rfl (.tmp 37) (.tmp 40) 41 rfl (C + 1) 98 i0 _ 16 232 Tryz.underlying41 qg z0 z1 z2 rfl (by decide) _ _ _ rfl gO.out (w5.heap.size + 1) (some ⟨w5.heap.size, 0, none⟩) 1 1 [v0, v1, v2, v3, v4, v5, v6, v7, v8, v9, v10, v11, nL, nI, ni, nh] rfl j5.out fU.out (by simp only [maxLen]; omega) (by omega) hsz ?_
                    intro v' w9 an
                    obtain ⟨A9, c9, CV, _⟩ := (jA.out v' w9 an).form
                    rw [qv.out] at CV
                    subst CV
                    have jn := Lib.hid (oU.out.push gO.out an (jA.out _ w9 an) hsz)
                    have bI := an.below hsz gO.out
                    have x9 : w9.cell? ⟨w.heap.size, 0, none⟩ = some (.slice Av al cv) := (bI.cell (p := ⟨w.heap.size, 0, none⟩) (show w.heap.size < C + 1 by omega)).trans (oU.out.res.cell 0)
                    have DZ : aM w9 w.heap.size 41 #[.slice Av al cv] := (bI.block w.heap.size (by omega)).trans oU.out.res
                    have y9 := DZ.frozen 0
                    have FQ := bI.size
                    clear an
                    try dsimp only
                    refine hK.out _ _ trivial (fun _ => ?_)
                    clear hK K
                    try simp only [Act.put, List.setIfInBounds_toArray, List.set_cons_zero, List.set_cons_succ]
                    refine aA (i := 5) (by kernel_rfl) rfl (fun K hK => ?_)
                    go_simp
                    try dsimp only
                    refine hK.out _ _ trivial (fun _ => ?_)
                    clear hK K
                    try simp only [Act.put, List.setIfInBounds_toArray, List.set_cons_zero, List.set_cons_succ]
                    refine aN (by kernel_rfl) ?_ _
                    go_wp2_with fail
                    go_meet
                    exact ⟨_, jn.out, by simpa using Nat.le_trans hsz FQ⟩
                  · have bB : Below w5.heap.size w5 (w5.alloc (.cells #[v0, v1, v2, v3, v4, v5, v6, v7, v8, v9, v10, v11, nL, nI, ni, nh] 98)) := (Below.refl _ _).alloc (Nat.le_refl _) _
                    have oU := Lib.hid (eo.out.on bB)
                    have CZ := Lib.hid (nQ.out.keep (aC.any bB))
                    obtain ⟨ys, bu, bh⟩ := oU.out.own.push p CZ.out
                    rw [wV] at bu bh
                    have gO := Lib.hid bu
                    have jA := Lib.hid bh
                    have j5 := Lib.hid (Rd.new w5 98 16 1 [v0, v1, v2, v3, v4, v5, v6, v7, v8, v9, v10, v11, nL, nI, ni, nh] rfl)
                    have fU := Lib.hid nQ.out.one.2
                    have hsz : C + 1 ≤ (w5.alloc (.cells #[v0, v1, v2, v3, v4, v5, v6, v7, v8, v9, v10, v11, nL, nI, ni, nh] 98)).heap.size := Nat.le_trans KF bB.size
                    have r8 : (w5.alloc (.cells #[v0, v1, v2, v3, v4, v5, v6, v7, v8, v9, v10, v11, nL, nI, ni, nh] 98)).cell? ⟨w.heap.size, 0, none⟩ = some (.slice Av al cv) := oU.out.res.cell 0
                    clear bB bu bh
                    go_simp
                    try dsimp only
                    refine hK.out _ _ trivial (fun _ => ?_)
                    clear hK K
                    try simp only [Act.put, List.setIfInBounds_toArray, List.set_cons_zero, List.set_cons_succ]
                    refine aA (i := 0) (o := ⟨some 37, _, _, _, _, _⟩) (by kernel_rfl) rfl (fun K hK => ?_)
                    go_simp
                    try dsimp only
                    refine hK.out _ _ trivial (fun _ => ?_)
                    clear hK K
                    try simp only [Act.put, List.setIfInBounds_toArray, List.set_cons_zero, List.set_cons_succ]
                    refine aA (i := 4) (o := ⟨some 41, _, _, _, _, _⟩) (by kernel_rfl) rfl (fun K hK => ?_)
                    refine aL _ rfl (.tmp 37) (.tmp 40) 41 rfl (C + 1) 98 i0 _ 16 232 Tryz.underlying41 qg z0 z1 z2 rfl (by decide) _ _ _ rfl gO.out (w5.heap.size + 1) (some ⟨w5.heap.size, 0, none⟩) 1 1 [v0, v1, v2, v3, v4, v5, v6, v7, v8, v9, v10, v11, nL, nI, ni, nh] rfl j5.out fU.out (by simp only [maxLen]; omega) (by omega) hsz ?_
                    intro v' w9 an
                    obtain ⟨A9, c9, CV, _⟩ := (jA.out v' w9 an).form
                    rw [qv.out] at CV
                    subst CV
                    have jn := Lib.hid (oU.out.push gO.out an (jA.out _ w9 an) hsz)
                    have bI := an.below hsz gO.out
                    have x9 : w9.cell? ⟨w.heap.size, 0, none⟩ = some (.slice Av al cv) := (bI.cell (p := ⟨w.heap.size, 0, none⟩) (show w.heap.size < C + 1 by omega)).trans (oU.out.res.cell 0)
                    have DZ : aM w9 w.heap.size 41 #[.slice Av al cv] := (bI.block w.heap.size (by omega)).trans oU.out.res
                    have y9 := DZ.frozen 0
                    have FQ := bI.size
                    clear an
                    try dsimp only
                    refine hK.out _ _ trivial (fun _ => ?_)
                    clear hK K
                    try simp only [Act.put, List.setIfInBounds_toArray, List.set_cons_zero, List.set_cons_succ]
                    refine aA (i := 5) (by kernel_rfl) rfl (fun K hK => ?_)
                    go_simp
                    try dsimp only
                    refine hK.out _ _ trivial (fun _ => ?_)
                    clear hK K
                    try simp only [Act.put, List.setIfInBounds_toArray, List.set_cons_zero, List.set_cons_succ]
                    refine aN (by kernel_rfl) ?_ _
                    go_wp2_with fail
                    go_meet
                    exact ⟨_, jn.out, by simpa using Nat.le_trans hsz FQ⟩
              -- ok}
            case rest =>
              obtain ⟨v6, C0, SE⟩ := hcut
              have fY := Lib.hid C0
              have C4 : al < 200 := by have := HM.out; omega
              clear C0 r4
              go_wp2_with fail
              refine (pW.out _ j2 fY.out.cur).mono ?_
              rintro e w7 ⟨rfl, fK, cZ⟩
              have ju := Lib.hid (fY.out.step fK cZ)
              have SO : C + 1 ≤ w7.heap.size := Nat.le_trans SE cZ.1
              clear fK cZ
              obtain ⟨b, hb⟩ : ∃ b, aj L j2 = b := ⟨_, rfl⟩
              have HB := Lib.hid hb
              rw [hb] at ju
              clear hb
              have Fy := Lib.hid (um.out _ b 59 ju.out.cur (by decide))
              cases hnd : aH L b 59 with
              | error e0 =>
                obtain ⟨x, q⟩ := e0
                have HE := Lib.hid (iz.out.trans (sG (by rw [HA.out]; have := Oi.out; omega) (by rw [wV]; exact HM.out) (by rw [HA.out]; exact HP.out) (by rw [HB.out]; exact hnd)))
                have fy := Lib.hid (fm.out x q HE.out)
                have hx := Rv.out x q HE.out
                rw [hnd] at Fy
                clear hnd
                go_wp2_with fail
                refine Fy.out.mono ?_
                rintro e w8 ⟨he, bB⟩
                unfold aX at he
                subst he
                have Kz := (bB.2.2.2.2 _ ju.out.res.lt (by omega)).trans ju.out.res
                have wP := (bB.2.2.2.2 _ ju.out.flt.lt (by omega)).trans ju.out.flt
                have KU := Lib.hid Kz
                have gM := Lib.hid wP
                have jG := Lib.hid (ju.out.below.trans (bB.to ju.out.below.size (by omega)))
                clear bB Kz wP
                go_wp2_with fail
                refine fL _ (w.heap.size + 1) w.heap.size w.heap.size x q 0 0 _ _ _ _ _ rfl rfl gM.out KU.out (by omega) (by omega) (Nat.le_refl _) jG.out.size hx (fun W2 aU => ?_)
                rw [fy.out]
                exact ⟨⟨none, 0, 0, rfl, ej.nil _ _, Nat.le_refl _⟩, jG.out.trans aU⟩
              | ok k =>
                have eF := Lib.hid (iz.out.trans (qY (by rw [HA.out]; have := Oi.out; omega) (by rw [wV]; exact HM.out) (by rw [HA.out]; exact HP.out) (by rw [HB.out]; exact hnd)))
                have QZ := Lib.hid (show k = b + 1 from (dX hnd).1)
                have vE := Lib.hid (xK HV.out.ok (by rw [KM.out]; exact Ag) HP.out)
                rw [hnd] at Fy
                clear hnd
                go_wp2_with fail
                refine Fy.out.mono ?_
                rintro e w8 ⟨rfl, jh, bB⟩
                have gM := Lib.hid (ju.out.step jh bB)
                have T0 : C + 1 ≤ w8.heap.size := Nat.le_trans SO bB.1
                clear jh bB
                go_wp2_with fail
                refine (pW.out _ k gM.out.cur).mono ?_
                rintro e w9 ⟨rfl, nS, bI⟩
                have jn := Lib.hid (gM.out.step nS bI)
                have Tv : C + 1 ≤ w9.heap.size := Nat.le_trans T0 bI.1
                clear nS bI
                go_wp2_with fail
                have hge : a ≤ b := by have h1 := vE.out.1; have h2 := b7 L j2; rw [HB.out] at h2; omega
                have hkb := QZ.out
                have hkn := gM.out.cur.le
                refine ⟨⟨f, k, acc ++ [p], v6, hkn, by omega, eF.out, by rw [List.length_append, wV]; simp; omega, jn.out, Tv⟩, ?_⟩
                have e1 : w9.cell? ⟨C, 1, none⟩ = some (.int .i64 ((aj L k : Nat) : Int)) := jn.out.cur.cX.cell 1
                have e2 := gT.out
                have hle := jn.out.cur.le
                have O0 := b7 L k
                rw [e1, e2]
                simp only [Int.toNat_natCast, List.getElem?_toArray, List.getElem?_cons_succ, List.getElem?_cons_zero]
                omega
end Go.Proofs.YthnhbcohfoodlaaGreatDoor
