/- RdFile -/
import Derived.Test.YthnhbcohfoodlaaGreatDoorZw47
import Derived.Deep.CutRange
set_option maxHeartbeats 12800000
set_option maxRecDepth 100000
namespace Go.Proofs.YthnhbcohfoodlaaGreatDoor
open Go.RowKit
theorem FM {L : List Int} {f i : Nat} {l : List ay} (h : pk L (ai L i) < 0) : gf L (f + 1) i l = .ok l := by rw [gf, if_pos h]
theorem Dy {L : List Int} {f i : Nat} {l : List ay} (h : ¬ pk L (ai L i) < 0) (h2 : l.length = 200) : gf L (f + 1) i l = .error (5, ai L i) := by rw [gf, if_neg h, if_pos h2]
theorem CQ {L : List Int} {f i : Nat} {l : List ay} {e : Int × Nat} (h : ¬ pk L (ai L i) < 0) (h2 : ¬ l.length = 200) (h3 : gI L (ai L i) = .error e) : gf L (f + 1) i l = .error e := by rw [gf, if_neg h, if_neg h2, h3]
theorem Dg {L : List Int} {f i j : Nat} {l : List ay} {p : ay} {e : Int × Nat} (h : ¬ pk L (ai L i) < 0) (h2 : ¬ l.length = 200) (h3 : gI L (ai L i) = .ok (p, j)) (h4 : aW L (ai L j) 59 = .error e) : gf L (f + 1) i l = .error e := by rw [gf, if_neg h, if_neg h2, h3]; simp only; rw [h4]
theorem Di {L : List Int} {f i j k : Nat} {l : List ay} {p : ay} (h : ¬ pk L (ai L i) < 0) (h2 : ¬ l.length = 200) (h3 : gI L (ai L i) = .ok (p, j)) (h4 : aW L (ai L j) 59 = .ok k) : gf L (f + 1) i l = gf L f k (l ++ [p]) := by rw [gf, if_neg h, if_neg h2, h3]; simp only; rw [h4]
theorem mP {w : World} {X : Nat → Prop} {p : ay} {cs : List Value} (h : cz w X p cs) : ∃ v0 v1 v2 v3 v4 v5 v6 v7 v8 v9 v10 v11 v12 lO mF nG, cs = [v0, v1, v2, v3, v4, v5, v6, v7, v8, v9, v10, v11, v12, lO, mF, nG] := by
 obtain ⟨A', n', c', L1, a1, x1, L2, a2, x2, L3, a3, x3, R1, b1, y1, R2, b2, y2, R3, b3, y3, rfl⟩ := h.form;exact ⟨_, _, _, _, _, _, _, _, _, _, _, _, _, _, _, _, rfl⟩
theorem DH (s : ByteArray) (w : World) (hs : s.size ≤ 1099511627776) :
    Calls Tryz.prog 21 #[.string s] w (xq w (iK (cM s 0))) := by
  obtain ⟨i0, GO, u0, z1, z2⟩ := info_parts xP
  have hmf : ∀ (fn : Fn) (first cap : Array Value) (w : World), (Instr.makeFunc fn first cap).run Tryz.prog w = .ok (.func fn first cap) w := fun _ _ _ _ => rfl
  have HD := Lib.hid (fun (W : World) => show Calls Tryz.prog 36 #[.string s] W fun e w' => ∃ v, e = .returned v ∧ qb w' W.heap.size v (cM s 0) ∧ Below W.heap.size W w' from Ch s W hs)
  have HV := Lib.hid (show gi (cM s 0) from wH s)
  have hLs : (cM s 0).length ≤ s.size := by
    unfold cM
    rw [List.length_map]
    have := yj s s.size 0 (by omega)
    omega
  generalize cM s 0 = L at *
  have jR := Lib.hid (show Below w.heap.size w ((w.alloc (.cells #[.slice none 0 0] 41)).alloc (.cells #[.int .i64 0, .int .i64 0] 25)) from ((Below.refl _ _).alloc (Nat.le_refl _) _).alloc (by simp) _)
  have gG := Lib.hid (show au ((w.alloc (.cells #[.slice none 0 0] 41)).alloc (.cells #[.int .i64 0, .int .i64 0] 25)) w.heap.size 41 #[.slice none 0 0] from (au.new w _ _).alloc _)
  have zz := Lib.hid (show au ((w.alloc (.cells #[.slice none 0 0] 41)).alloc (.cells #[.int .i64 0, .int .i64 0] 25)) (w.heap.size + 1) 25 #[.int .i64 0, .int .i64 0] from by
    have := au.new (w.alloc (.cells #[.slice none 0 0] 41)) 25 #[.int .i64 0, .int .i64 0]
    simpa using this)
  have Tv := Lib.hid (show w.heap.size + 2 ≤ ((w.alloc (.cells #[.slice none 0 0] 41)).alloc (.cells #[.int .i64 0, .int .i64 0] 25)).heap.size by simp)
  go_enter_defers Tryz.func21, Tryz.ntmps21
  go_wp2_with fail
  refine (HD.out _).mono ?_
  rintro e w1 ⟨v, rfl, ho, hb⟩
  have cy := Lib.hid (jR.out.trans (hb.mono jR.out.size))
  have nE := Lib.hid (gG.out.below hb gG.out.lt)
  have iI := Lib.hid (zz.out.below hb zz.out.lt)
  have ko : w.heap.size + 2 ≤ w1.heap.size := Nat.le_trans Tv.out hb.size
  obtain ⟨n, hn⟩ : ∃ n, L.length = n := ⟨_, rfl⟩
  unfold qb at ho
  rw [hn] at ho
  have UO : n ≤ 4611686018427387904 := by omega
  obtain ⟨A, c, rfl, hnc⟩ := aT ho
  have hrow : fl (w1.alloc (.cells #[.slice A n c, .int .i64 0] 92)) (fun b => w.heap.size + 2 ≤ b ∧ b < w1.heap.size) 1 A n (runeCells L) :=
    (fl.gN (X := fun b => w.heap.size + 2 ≤ b ∧ b < w1.heap.size) ho (fun b hb => ⟨Nat.le_trans Tv.out (bM ho hb).1, (bM ho hb).2⟩)).keep (ag.alloc _ (fun b hb _ => hb))
  have Gj := Lib.hid (show tj w w1.heap.size A n c L (w1.alloc (.cells #[.slice A n c, .int .i64 0] 92)) 0 (.slice none 0 0) [] from
    ⟨⟨⟨_, au.new _ _ _⟩, hrow.lift (fun b h => by have := h.2; omega), UO, Nat.zero_le _, hnc⟩, hrow, nE.out.alloc _, iI.out.alloc _, fY.nil _ _ _, cy.out.alloc cy.out.size _, ko⟩)
  have hC : w1.heap.size + 1 ≤ (w1.alloc (.cells #[.slice A n c, .int .i64 0] 92)).heap.size := by simp
  have X4 := Lib.hid hn
  clear ho hb HD gG zz jR Tv hrow cy nE iI
  go_upto_region 4 with fail
  generalize w1.alloc (.cells #[.slice A n c, .int .i64 0] 92) = w2 at *
  generalize w1.heap.size = C at *
  have c0 := Gj.out.cur.ey.cell 0
  by_cases IT : 16000 < n
  · have ni := Lib.hid (Bt (L := L) (by rw [hn]; exact IT))
    have HSF := Lib.hid (fun (W : World) => bX 4 0 W)
    clear hn
    go_wp2_with fail
    refine (HSF.out _).mono ?_
    rintro e w3 ⟨rfl, rfl⟩
    go_wp2_with fail
    refine gr _ (w.heap.size + 1) w.heap.size w.heap.size 4 0 0 0 _ _ _ _ _ rfl rfl Gj.out.flt Gj.out.res (by omega) (by omega) (Nat.le_refl _) Gj.out.below.size (by decide) (fun W2 bn => ?_)
    rw [ni.out]
    exact ⟨⟨none, 0, 0, rfl, eG.nil _ _, Nat.le_refl _⟩, Gj.out.below.trans bn⟩
  · have WI := Lib.hid (show ¬ 16000 < L.length from fun h => IT (by rw [← hn]; exact h))
    have hn5 : n ≤ 16000 := by omega
    have fP := Lib.hid (fun (W : World) (m : Nat) (h : av W C A n c L m) => cG W C A n c L m h)
    have qR := Lib.hid (fun (W : World) (m : Nat) (h : av W C A n c L m) => i9 W C A n c L m h)
    have E0 := Lib.hid (fun (W : World) (m : Nat) (r : Int) (h : av W C A n c L m) (hr : r ≠ -1) => fc W C A n c L m r h hr)
    have o7 := Lib.hid (fun (W : World) (m : Nat) (h : av W C A n c L m) => Lf W C A n c L m h HV.out (by omega))
    obtain ⟨R0, Qu⟩ : ∃ R0, gf L (L.length + 1) 0 [] = R0 := ⟨_, rfl⟩
    have j9 := Lib.hid (fun (x : Int) (p : Nat) (h : R0 = .error (x, p)) => show iK L = ([], (x, (p : Int))) from CK WI.out (Qu.trans h))
    have Xl := Lib.hid (fun (x : Int) (p : Nat) (h : R0 = .error (x, p)) => show x ≠ 0 from Fc L _ _ _ _ _ (Qu.trans h))
    have JW := Lib.hid (fun (l : List ay) (h : R0 = .ok l) => show iK L = (l, (0, 0)) from ES WI.out (Qu.trans h))
    have gG := Lib.hid Qu
    generalize iK L = RP at *
    have UC : decide ((16000 : Int) < (n : Int)) = false := decide_eq_false (by omega)
    clear hn Qu IT
    go_wp2_with fail
    refine (qR.out _ 0 Gj.out.cur).mono ?_
    rintro e w3 ⟨rfl, kJ, aJ⟩
    have jl := Lib.hid (Gj.out.step kJ aJ)
    have YN : C + 1 ≤ w3.heap.size := Nat.le_trans hC aJ.1
    clear kJ aJ c0 UC hC
    go_wp2_with fail
    go_loopw [25] (fun _ wr => ∃ (f j : Nat) (acc : List ay) (v : Value), j ≤ n ∧ n + 1 ≤ f + j ∧ R0 = gf L f j acc ∧ acc.length ≤ 200 ∧ tj w C A n c L wr (ai L j) v acc ∧ C + 1 ≤ wr.heap.size) (fun _ wr => n - (match wr.cell? ⟨C, 1, none⟩ with | some (.int _ j) => j.toNat | _ => 0))
    case atStart => exact ⟨L.length + 1, 0, [], _, Nat.zero_le _, by have := X4.out; omega, gG.out.symm, Nat.zero_le _, jl.out, YN⟩
    case round =>
      obtain ⟨f0, j, acc, v, hj, hf, bU, yd, hfl, ZS⟩ := hrel
      obtain ⟨f, rfl⟩ : ∃ f, f0 = f + 1 := ⟨f0 - 1, by omega⟩
      obtain ⟨a, ha⟩ : ∃ a, ai L j = a := ⟨_, rfl⟩
      have Zw : j ≤ a := by rw [← ha]; exact de L j
      have pg := Lib.hid bU
      have HA := Lib.hid ha
      rw [ha] at hfl
      have Gj := Lib.hid hfl
      have sn := Lib.hid (hfl.cur.ey.cell 1)
      have Xv := hfl.cur.le
      obtain ⟨Av, cv, rfl, tD⟩ := hfl.own.form
      clear bU ha hfl
      go_wp2_with fail
      refine (fP.out _ a Gj.out.cur).mono ?_
      rintro e w4 ⟨rfl, ld, hb4⟩
      have gE := Lib.hid (Gj.out.step ld hb4)
      have Vc : C + 1 ≤ w4.heap.size := Nat.le_trans ZS hb4.1
      clear ld hb4
      have r4 := gE.out.res.cell 0
      by_cases hneg : pk L a < 0
      · have hg : decide ((0 : Int) ≤ pk L a) = false := decide_eq_false (by omega)
        have ni := Lib.hid (JW.out acc (pg.out.trans (FM (by rw [HA.out]; exact hneg))))
        clear hneg
        go_wp2_with fail
        have r5 := gE.out.res.frozen 0
        have s4 := gE.out.flt.cell 0
        have s5 := gE.out.flt.cell 1
        have s6 := gE.out.flt.frozen 0
        have s7 := gE.out.flt.frozen 1
        go_region
        obtain ⟨XB, Xm, Ws⟩ := yP (m := 1) gE.out.res gE.out.flt (show w.heap.size ≠ w.heap.size + 1 by omega)
        obtain ⟨Xr, WH⟩ := Ws w.heap.size (Nat.le_refl _) (by omega) gE.out.below.size
        have hW : (((w4.setCell { block := w.heap.size, off := 0 } (Value.slice Av acc.length cv)).setCell { block := w.heap.size + 1, off := 0 } (Value.int IntKind.i64 0)).setCell { block := w.heap.size + 1, off := 1 } (Value.int IntKind.i64 0)).drew = (((w4.drewN 1).setCell { block := w.heap.size, off := 0 } (Value.slice Av acc.length cv)).setCell { block := w.heap.size + 1, off := 0 } (Value.int IntKind.i64 0)).setCell { block := w.heap.size + 1, off := 1 } (Value.int IntKind.i64 0) := rfl
        rw [hW]
        have WD := gE.out.hC
        have B4 := Lib.hid XB
        have HFF := Lib.hid Xm
        have H9 := Lib.hid (gE.out.below.trans Xr)
        have hpx := gE.out.own.done
        have WA := Lib.hid (show ag w4 (fun b => C + 1 ≤ b) _ (fun b => w.heap.size ≤ b) from fun b hb hl => let ⟨e, _, h2⟩ := WH b ⟨by omega, by omega⟩ hl; ⟨e, by omega, h2⟩)
        have wT := Lib.hid (hpx.keep WA.out)
        clear XB Xm Ws Xr WH r4 r5 s4 s5 s6 s7 WA hpx hW
        generalize (((w4.drewN 1).setCell { block := w.heap.size, off := 0 } (Value.slice Av acc.length cv)).setCell { block := w.heap.size + 1, off := 0 } (Value.int IntKind.i64 0)).setCell { block := w.heap.size + 1, off := 1 } (Value.int IntKind.i64 0) = w9 at *
        go_wp2_with fail
        refine wB _ (w.heap.size + 1) w.heap.size 0 (.slice Av acc.length cv) _ _ w9 _ rfl rfl HFF.out B4.out ?_
        rw [ni.out]
        exact ⟨⟨Av, _, cv, rfl, wT.out, tD⟩, H9.out⟩
      · have hg : decide ((0 : Int) ≤ pk L a) = true := decide_eq_true (by omega)
        have Ye := Lib.hid hneg
        by_cases hm : acc.length = 200
        · have HE := Lib.hid (pg.out.trans (Dy (by rw [HA.out]; exact hneg) hm))
          have Hh := Lib.hid (show R0 = .error (5, a) by rw [HE.out, HA.out])
          have ni := Lib.hid (j9.out 5 a Hh.out)
          have y4 := gE.out.cur.ey.cell 1
          rw [hm] at r4
          clear hneg
          go_wp2_with fail
          refine (bX 5 a _).mono ?_
          rintro e w5 ⟨rfl, rfl⟩
          go_wp2_with fail
          refine gr _ (w.heap.size + 1) w.heap.size w.heap.size 5 a 0 0 _ _ _ _ _ rfl rfl gE.out.flt gE.out.res (by omega) (by omega) (Nat.le_refl _) gE.out.below.size (by decide) (fun W2 bn => ?_)
          rw [ni.out]
          exact ⟨⟨none, 0, 0, rfl, eG.nil _ _, Nat.le_refl _⟩, gE.out.below.trans bn⟩
        · have hm2 : ¬ (acc.length : Int) = 200 := by omega
          have qm : ((acc.length : Int) == 200) = false := by rw [beq_eq_false_iff_ne]; exact hm2
          have HM := Lib.hid hm
          clear hm hm2
          generalize Kr : acc.length = al at *
          cases hp : gI L a with
          | error e0 =>
            obtain ⟨x, p⟩ := e0
            have HE := Lib.hid (pg.out.trans (CQ (by rw [HA.out]; exact hneg) (by rw [Kr]; exact HM.out) (by rw [HA.out]; exact hp)))
            have ni := Lib.hid (j9.out x p HE.out)
            have hx := Xl.out x p HE.out
            have J5 := Lib.hid (fun (W : World) (h : av W C A n c L a) => show Calls Tryz.prog 58 #[.pointer (some ⟨C, 0, none⟩)] W (rE W C A n c L (.error (x, p))) by have := o7.out W a h; rwa [hp] at this)
            clear hp hneg
            go_upto_region 11 with fail
            have iD := Lib.hid (gE.out.on (gX (Below.refl w4.heap.size w4)))
            have WD := gE.out.hC
            -- {err
            refine aR (S := fun _ => True) [] (by kernel_rfl) trivial (fun _ => ?_)
            refine j8 (i := 0) (j := 1) (o := ⟨some 37, _, _, _, _, _⟩) (o2 := ⟨some 38, _, _, _, _, _⟩) (by kernel_rfl) rfl rfl (fun K hK => ?_) (fun K hK => ?_)
            · go_simp
              try dsimp only
              refine hK.out _ _ trivial (fun _ => ?_)
              clear hK K
              try simp only [zp, za, z0, zs]
              refine aQ (i := 1) (o := ⟨some 38, _, _, _, _, _⟩) (by kernel_rfl) rfl (fun K hK => ?_)
              go_simp
              try dsimp only
              refine hK.out _ _ trivial (fun _ => ?_)
              clear hK K
              try simp only [zp, za, z0, zs]
              refine aQ (i := 2) (o := ⟨some 39, _, _, _, _, _⟩) (by kernel_rfl) rfl (fun K hK => ?_)
              go_simp
              go_at_call 58
              refine (J5.out _ iD.out.cur).mono ?_
              rintro e w5 ⟨he, eo⟩
              unfold aZ at he
              subst he
              have JP := (eo.2.2.2.2 _ iD.out.res.lt (by omega)).trans iD.out.res
              have Hx := (eo.2.2.2.2 _ iD.out.flt.lt (by omega)).trans iD.out.flt
              have Mr := Lib.hid JP
              have lP := Lib.hid Hx
              have fR := Lib.hid (iD.out.below.trans (eo.to iD.out.below.size (by omega)))
              clear eo JP Hx
              go_wp2_with fail
              refine gr _ (w.heap.size + 1) w.heap.size w.heap.size x p 0 0 _ _ _ _ _ rfl rfl lP.out Mr.out (by omega) (by omega) (Nat.le_refl _) fR.out.size hx (fun W2 bn => ?_)
              rw [ni.out]
              exact ⟨⟨none, 0, 0, rfl, eG.nil _ _, Nat.le_refl _⟩, fR.out.trans bn⟩
            · go_simp
              try dsimp only
              refine hK.out _ _ trivial (fun _ => ?_)
              clear hK K
              try simp only [zp, za, z0, zs]
              refine j8 (i := 0) (j := 2) (o := ⟨some 37, _, _, _, _, _⟩) (o2 := ⟨some 39, _, _, _, _, _⟩) (by kernel_rfl) rfl rfl (fun K hK => ?_) (fun K hK => ?_)
              · go_simp
                try dsimp only
                refine hK.out _ _ trivial (fun _ => ?_)
                clear hK K
                try simp only [zp, za, z0, zs]
                refine aQ (i := 2) (o := ⟨some 39, _, _, _, _, _⟩) (by kernel_rfl) rfl (fun K hK => ?_)
                go_simp
                go_at_call 58
                refine (J5.out _ iD.out.cur).mono ?_
                rintro e w5 ⟨he, eo⟩
                unfold aZ at he
                subst he
                have JP := (eo.2.2.2.2 _ iD.out.res.lt (by omega)).trans iD.out.res
                have Hx := (eo.2.2.2.2 _ iD.out.flt.lt (by omega)).trans iD.out.flt
                have Mr := Lib.hid JP
                have lP := Lib.hid Hx
                have fR := Lib.hid (iD.out.below.trans (eo.to iD.out.below.size (by omega)))
                clear eo JP Hx
                go_wp2_with fail
                refine gr _ (w.heap.size + 1) w.heap.size w.heap.size x p 0 0 _ _ _ _ _ rfl rfl lP.out Mr.out (by omega) (by omega) (Nat.le_refl _) fR.out.size hx (fun W2 bn => ?_)
                rw [ni.out]
                exact ⟨⟨none, 0, 0, rfl, eG.nil _ _, Nat.le_refl _⟩, fR.out.trans bn⟩
              · go_simp
                go_at_call 58
                refine (J5.out _ iD.out.cur).mono ?_
                rintro e w5 ⟨he, eo⟩
                unfold aZ at he
                subst he
                have JP := (eo.2.2.2.2 _ iD.out.res.lt (by omega)).trans iD.out.res
                have Hx := (eo.2.2.2.2 _ iD.out.flt.lt (by omega)).trans iD.out.flt
                have Mr := Lib.hid JP
                have lP := Lib.hid Hx
                have fR := Lib.hid (iD.out.below.trans (eo.to iD.out.below.size (by omega)))
                clear eo JP Hx
                go_wp2_with fail
                refine gr _ (w.heap.size + 1) w.heap.size w.heap.size x p 0 0 _ _ _ _ _ rfl rfl lP.out Mr.out (by omega) (by omega) (Nat.le_refl _) fR.out.size hx (fun W2 bn => ?_)
                rw [ni.out]
                exact ⟨⟨none, 0, 0, rfl, eG.nil _ _, Nat.le_refl _⟩, fR.out.trans bn⟩
            -- err}
          | ok q =>
            obtain ⟨p, j2⟩ := q
            have J5 := Lib.hid (fun (W : World) (h : av W C A n c L a) => show Calls Tryz.prog 58 #[.pointer (some ⟨C, 0, none⟩)] W (rE W C A n c L (.ok (p, j2))) by have := o7.out W a h; rwa [hp] at this)
            have HP := Lib.hid hp
            have iD := Lib.hid (gE.out.on (gX (Below.refl w4.heap.size w4)))
            have WD := gE.out.hC
            have V1 := Lib.hid (fun (b : Nat) (hb : w4.heap.size ≤ b) => gE.out.own.apart hb)
            have Qh := Lib.hid (show (acc ++ [p]).length = al + 1 by rw [List.length_append, Kr]; rfl)
            clear hp hneg
            go_upto_region 11 with fail
            go_cut [] from 21 to 47 (fun wx => ∃ v' : Value, tj w C A n c L wx j2 v' (acc ++ [p]) ∧ C + 1 ≤ wx.heap.size)
            case first =>
              -- {ok
              refine aR (S := fun _ => True) [] (by kernel_rfl) trivial (fun _ => ?_)
              refine j8 (i := 0) (j := 1) (o := ⟨some 37, _, _, _, _, _⟩) (o2 := ⟨some 38, _, _, _, _, _⟩) (by kernel_rfl) rfl rfl (fun K hK => ?_) (fun K hK => ?_)
              · go_simp
                try dsimp only
                refine hK.out _ _ trivial (fun _ => ?_)
                clear hK K
                try simp only [zp, za, z0, zs]
                refine aQ (i := 1) (o := ⟨some 38, _, _, _, _, _⟩) (by kernel_rfl) rfl (fun K hK => ?_)
                go_simp
                try dsimp only
                refine hK.out _ _ trivial (fun _ => ?_)
                clear hK K
                try simp only [zp, za, z0, zs]
                refine aQ (i := 2) (o := ⟨some 39, _, _, _, _, _⟩) (by kernel_rfl) rfl (fun K hK => ?_)
                go_simp
                go_at_call 58
                refine (J5.out _ iD.out.cur).mono ?_
                rintro e w5 ⟨⟨cs, rfl, hpx⟩, kP, eo⟩
                obtain ⟨v0, v1, v2, v3, v4, v5, v6, v7, v8, v9, v10, v11, v12, lO, mF, nG, rfl⟩ := mP hpx
                have lP := Lib.hid (iD.out.step kP eo)
                have OE : C + 1 ≤ w5.heap.size := Nat.le_trans Vc eo.1
                have wT := Lib.hid (cz.keep (X' := uy (C + 1) C (.slice Av al cv)) (show ag w5 (tN w4.drew C) w5 (uy (C + 1) C (.slice Av al cv)) from fun b h hl => ⟨rfl, ⟨by have := h.1; have h0 : w4.drew.heap.size = w4.heap.size := rfl; omega, h.2, V1.out b (Nat.le_of_lt h.1)⟩, hl⟩) hpx)
                have r5 := lP.out.res.cell 0
                clear hpx kP eo
                try dsimp only
                refine hK.out _ _ trivial (fun _ => ?_)
                clear hK K
                try simp only [zp, za, z0, zs]
                refine aQ (i := 3) (o := ⟨some 40, _, _, _, _, _⟩) (by kernel_rfl) rfl (fun K hK => ?_)
                have iC : Below w5.heap.size w5 (w5.alloc (.cells #[v0, v1, v2, v3, v4, v5, v6, v7, v8, v9, v10, v11, v12, lO, mF, nG] 98)) := (Below.refl _ _).alloc (Nat.le_refl _) _
                have uN := Lib.hid (lP.out.on iC)
                have Cw := Lib.hid (wT.out.keep (ag.any iC))
                obtain ⟨ys, fK, eu⟩ := uN.out.own.push p Cw.out
                rw [Kr] at fK eu
                have wQ := Lib.hid fK
                have wK := Lib.hid eu
                have AP := Lib.hid (Rd.new w5 98 16 1 [v0, v1, v2, v3, v4, v5, v6, v7, v8, v9, v10, v11, v12, lO, mF, nG] rfl)
                have qu := Lib.hid wT.out.one.2
                have hsz : C + 1 ≤ (w5.alloc (.cells #[v0, v1, v2, v3, v4, v5, v6, v7, v8, v9, v10, v11, v12, lO, mF, nG] 98)).heap.size := Nat.le_trans OE iC.size
                have r8 : (w5.alloc (.cells #[v0, v1, v2, v3, v4, v5, v6, v7, v8, v9, v10, v11, v12, lO, mF, nG] 98)).cell? ⟨w.heap.size, 0, none⟩ = some (.slice Av al cv) := uN.out.res.cell 0
                clear iC fK eu
                go_simp
                try dsimp only
                refine hK.out _ _ trivial (fun _ => ?_)
                clear hK K
                try simp only [zp, za, z0, zs]
                refine aQ (i := 4) (o := ⟨some 41, _, _, _, _, _⟩) (by kernel_rfl) rfl (fun K hK => ?_)
                refine eV _ rfl (.tmp 37) (.tmp 40) 41 rfl (C + 1) 98 i0 _ 16 232 Tryz.underlying41 GO u0 z1 z2 rfl (by decide) _ _ _ rfl wQ.out (w5.heap.size + 1) (some ⟨w5.heap.size, 0, none⟩) 1 1 [v0, v1, v2, v3, v4, v5, v6, v7, v8, v9, v10, v11, v12, lO, mF, nG] rfl AP.out qu.out (by simp only [maxLen]; omega) (by omega) hsz ?_
                intro v' w9 aB
                obtain ⟨A9, c9, Iv, _⟩ := (wK.out v' w9 aB).form
                rw [Qh.out] at Iv
                subst Iv
                have qd := Lib.hid (uN.out.push wQ.out aB (wK.out _ w9 aB) hsz)
                have dn := aB.below hsz wQ.out
                have x9 : w9.cell? ⟨w.heap.size, 0, none⟩ = some (.slice Av al cv) := (dn.cell (p := ⟨w.heap.size, 0, none⟩) (show w.heap.size < C + 1 by omega)).trans (uN.out.res.cell 0)
                have G9 : au w9 w.heap.size 41 #[.slice Av al cv] := (dn.block w.heap.size (by omega)).trans uN.out.res
                have y9 := G9.frozen 0
                have K4 := dn.size
                clear aB
                try dsimp only
                refine hK.out _ _ trivial (fun _ => ?_)
                clear hK K
                try simp only [zp, za, z0, zs]
                refine aQ (i := 5) (by kernel_rfl) rfl (fun K hK => ?_)
                go_simp
                try dsimp only
                refine hK.out _ _ trivial (fun _ => ?_)
                clear hK K
                try simp only [Act.put, List.setIfInBounds_toArray, List.set_cons_zero, List.set_cons_succ]
                refine cL (by kernel_rfl) ?_ _
                go_wp2_with fail
                go_meet
                exact ⟨_, qd.out, by simpa using Nat.le_trans hsz K4⟩
              · go_simp
                try dsimp only
                refine hK.out _ _ trivial (fun _ => ?_)
                clear hK K
                try simp only [Act.put, List.setIfInBounds_toArray, List.set_cons_zero, List.set_cons_succ]
                refine j8 (i := 0) (j := 2) (o := ⟨some 37, _, _, _, _, _⟩) (o2 := ⟨some 39, _, _, _, _, _⟩) (by kernel_rfl) rfl rfl (fun K hK => ?_) (fun K hK => ?_)
                · go_simp
                  try dsimp only
                  refine hK.out _ _ trivial (fun _ => ?_)
                  clear hK K
                  try simp only [zp, za, z0, zs]
                  refine aQ (i := 2) (o := ⟨some 39, _, _, _, _, _⟩) (by kernel_rfl) rfl (fun K hK => ?_)
                  go_simp
                  go_at_call 58
                  refine (J5.out _ iD.out.cur).mono ?_
                  rintro e w5 ⟨⟨cs, rfl, hpx⟩, kP, eo⟩
                  obtain ⟨v0, v1, v2, v3, v4, v5, v6, v7, v8, v9, v10, v11, v12, lO, mF, nG, rfl⟩ := mP hpx
                  have lP := Lib.hid (iD.out.step kP eo)
                  have OE : C + 1 ≤ w5.heap.size := Nat.le_trans Vc eo.1
                  have wT := Lib.hid (cz.keep (X' := uy (C + 1) C (.slice Av al cv)) (show ag w5 (tN w4.drew C) w5 (uy (C + 1) C (.slice Av al cv)) from fun b h hl => ⟨rfl, ⟨by have := h.1; have h0 : w4.drew.heap.size = w4.heap.size := rfl; omega, h.2, V1.out b (Nat.le_of_lt h.1)⟩, hl⟩) hpx)
                  have r5 := lP.out.res.cell 0
                  clear hpx kP eo
                  try dsimp only
                  refine hK.out _ _ trivial (fun _ => ?_)
                  clear hK K
                  try simp only [zp, za, z0, zs]
                  refine aQ (i := 3) (o := ⟨some 40, _, _, _, _, _⟩) (by kernel_rfl) rfl (fun K hK => ?_)
                  have iC : Below w5.heap.size w5 (w5.alloc (.cells #[v0, v1, v2, v3, v4, v5, v6, v7, v8, v9, v10, v11, v12, lO, mF, nG] 98)) := (Below.refl _ _).alloc (Nat.le_refl _) _
                  have uN := Lib.hid (lP.out.on iC)
                  have Cw := Lib.hid (wT.out.keep (ag.any iC))
                  obtain ⟨ys, fK, eu⟩ := uN.out.own.push p Cw.out
                  rw [Kr] at fK eu
                  have wQ := Lib.hid fK
                  have wK := Lib.hid eu
                  have AP := Lib.hid (Rd.new w5 98 16 1 [v0, v1, v2, v3, v4, v5, v6, v7, v8, v9, v10, v11, v12, lO, mF, nG] rfl)
                  have qu := Lib.hid wT.out.one.2
                  have hsz : C + 1 ≤ (w5.alloc (.cells #[v0, v1, v2, v3, v4, v5, v6, v7, v8, v9, v10, v11, v12, lO, mF, nG] 98)).heap.size := Nat.le_trans OE iC.size
                  have r8 : (w5.alloc (.cells #[v0, v1, v2, v3, v4, v5, v6, v7, v8, v9, v10, v11, v12, lO, mF, nG] 98)).cell? ⟨w.heap.size, 0, none⟩ = some (.slice Av al cv) := uN.out.res.cell 0
                  clear iC fK eu
                  go_simp
                  try dsimp only
                  refine hK.out _ _ trivial (fun _ => ?_)
                  clear hK K
                  try simp only [zp, za, z0, zs]
                  refine aQ (i := 4) (o := ⟨some 41, _, _, _, _, _⟩) (by kernel_rfl) rfl (fun K hK => ?_)
                  refine eV _ rfl (.tmp 37) (.tmp 40) 41 rfl (C + 1) 98 i0 _ 16 232 Tryz.underlying41 GO u0 z1 z2 rfl (by decide) _ _ _ rfl wQ.out (w5.heap.size + 1) (some ⟨w5.heap.size, 0, none⟩) 1 1 [v0, v1, v2, v3, v4, v5, v6, v7, v8, v9, v10, v11, v12, lO, mF, nG] rfl AP.out qu.out (by simp only [maxLen]; omega) (by omega) hsz ?_
                  intro v' w9 aB
                  obtain ⟨A9, c9, Iv, _⟩ := (wK.out v' w9 aB).form
                  rw [Qh.out] at Iv
                  subst Iv
                  have qd := Lib.hid (uN.out.push wQ.out aB (wK.out _ w9 aB) hsz)
                  have dn := aB.below hsz wQ.out
                  have x9 : w9.cell? ⟨w.heap.size, 0, none⟩ = some (.slice Av al cv) := (dn.cell (p := ⟨w.heap.size, 0, none⟩) (show w.heap.size < C + 1 by omega)).trans (uN.out.res.cell 0)
                  have G9 : au w9 w.heap.size 41 #[.slice Av al cv] := (dn.block w.heap.size (by omega)).trans uN.out.res
                  have y9 := G9.frozen 0
                  have K4 := dn.size
                  clear aB
                  try dsimp only
                  refine hK.out _ _ trivial (fun _ => ?_)
                  clear hK K
                  try simp only [zp, za, z0, zs]
                  refine aQ (i := 5) (by kernel_rfl) rfl (fun K hK => ?_)
                  go_simp
                  try dsimp only
                  refine hK.out _ _ trivial (fun _ => ?_)
                  clear hK K
                  try simp only [Act.put, List.setIfInBounds_toArray, List.set_cons_zero, List.set_cons_succ]
                  refine cL (by kernel_rfl) ?_ _
                  go_wp2_with fail
                  go_meet
                  exact ⟨_, qd.out, by simpa using Nat.le_trans hsz K4⟩
                · go_simp
                  go_at_call 58
                  refine (J5.out _ iD.out.cur).mono ?_
                  rintro e w5 ⟨⟨cs, rfl, hpx⟩, kP, eo⟩
                  obtain ⟨v0, v1, v2, v3, v4, v5, v6, v7, v8, v9, v10, v11, v12, lO, mF, nG, rfl⟩ := mP hpx
                  have lP := Lib.hid (iD.out.step kP eo)
                  have OE : C + 1 ≤ w5.heap.size := Nat.le_trans Vc eo.1
                  have wT := Lib.hid (cz.keep (X' := uy (C + 1) C (.slice Av al cv)) (show ag w5 (tN w4.drew C) w5 (uy (C + 1) C (.slice Av al cv)) from fun b h hl => ⟨rfl, ⟨by have := h.1; have h0 : w4.drew.heap.size = w4.heap.size := rfl; omega, h.2, V1.out b (Nat.le_of_lt h.1)⟩, hl⟩) hpx)
                  have r5 := lP.out.res.cell 0
                  clear hpx kP eo
                  try dsimp only
                  refine hK.out _ _ trivial (fun _ => ?_)
                  clear hK K
                  try simp only [Act.put, List.setIfInBounds_toArray, List.set_cons_zero, List.set_cons_succ]
                  refine j8 (i := 0) (j := 3) (o := ⟨some 37, _, _, _, _, _⟩) (o2 := ⟨some 40, _, _, _, _, _⟩) (by kernel_rfl) rfl rfl (fun K hK => ?_) (fun K hK => ?_)
                  · go_simp
                    try dsimp only
                    refine hK.out _ _ trivial (fun _ => ?_)
                    clear hK K
                    try simp only [zp, za, z0, zs]
                    refine aQ (i := 3) (o := ⟨some 40, _, _, _, _, _⟩) (by kernel_rfl) rfl (fun K hK => ?_)
                    have iC : Below w5.heap.size w5 (w5.alloc (.cells #[v0, v1, v2, v3, v4, v5, v6, v7, v8, v9, v10, v11, v12, lO, mF, nG] 98)) := (Below.refl _ _).alloc (Nat.le_refl _) _
                    have uN := Lib.hid (lP.out.on iC)
                    have Cw := Lib.hid (wT.out.keep (ag.any iC))
                    obtain ⟨ys, fK, eu⟩ := uN.out.own.push p Cw.out
                    rw [Kr] at fK eu
                    have wQ := Lib.hid fK
                    have wK := Lib.hid eu
                    have AP := Lib.hid (Rd.new w5 98 16 1 [v0, v1, v2, v3, v4, v5, v6, v7, v8, v9, v10, v11, v12, lO, mF, nG] rfl)
                    have qu := Lib.hid wT.out.one.2
                    have hsz : C + 1 ≤ (w5.alloc (.cells #[v0, v1, v2, v3, v4, v5, v6, v7, v8, v9, v10, v11, v12, lO, mF, nG] 98)).heap.size := Nat.le_trans OE iC.size
                    have r8 : (w5.alloc (.cells #[v0, v1, v2, v3, v4, v5, v6, v7, v8, v9, v10, v11, v12, lO, mF, nG] 98)).cell? ⟨w.heap.size, 0, none⟩ = some (.slice Av al cv) := uN.out.res.cell 0
                    clear iC fK eu
                    go_simp
                    try dsimp only
                    refine hK.out _ _ trivial (fun _ => ?_)
                    clear hK K
                    try simp only [zp, za, z0, zs]
                    refine aQ (i := 4) (o := ⟨some 41, _, _, _, _, _⟩) (by kernel_rfl) rfl (fun K hK => ?_)
                    refine eV _ rfl (.tmp 37) (.tmp 40) 41 rfl (C + 1) 98 i0 _ 16 232 Tryz.underlying41 GO u0 z1 z2 rfl (by decide) _ _ _ rfl wQ.out (w5.heap.size + 1) (some ⟨w5.heap.size, 0, none⟩) 1 1 [v0, v1, v2, v3, v4, v5, v6, v7, v8, v9, v10, v11, v12, lO, mF, nG] rfl AP.out qu.out (by simp only [maxLen]; omega) (by omega) hsz ?_
                    intro v' w9 aB
                    obtain ⟨A9, c9, Iv, _⟩ := (wK.out v' w9 aB).form
                    rw [Qh.out] at Iv
                    subst Iv
                    have qd := Lib.hid (uN.out.push wQ.out aB (wK.out _ w9 aB) hsz)
                    have dn := aB.below hsz wQ.out
                    have x9 : w9.cell? ⟨w.heap.size, 0, none⟩ = some (.slice Av al cv) := (dn.cell (p := ⟨w.heap.size, 0, none⟩) (show w.heap.size < C + 1 by omega)).trans (uN.out.res.cell 0)
                    have G9 : au w9 w.heap.size 41 #[.slice Av al cv] := (dn.block w.heap.size (by omega)).trans uN.out.res
                    have y9 := G9.frozen 0
                    have K4 := dn.size
                    clear aB
                    try dsimp only
                    refine hK.out _ _ trivial (fun _ => ?_)
                    clear hK K
                    try simp only [zp, za, z0, zs]
                    refine aQ (i := 5) (by kernel_rfl) rfl (fun K hK => ?_)
                    go_simp
                    try dsimp only
                    refine hK.out _ _ trivial (fun _ => ?_)
                    clear hK K
                    try simp only [Act.put, List.setIfInBounds_toArray, List.set_cons_zero, List.set_cons_succ]
                    refine cL (by kernel_rfl) ?_ _
                    go_wp2_with fail
                    go_meet
                    exact ⟨_, qd.out, by simpa using Nat.le_trans hsz K4⟩
                  · have iC : Below w5.heap.size w5 (w5.alloc (.cells #[v0, v1, v2, v3, v4, v5, v6, v7, v8, v9, v10, v11, v12, lO, mF, nG] 98)) := (Below.refl _ _).alloc (Nat.le_refl _) _
                    have uN := Lib.hid (lP.out.on iC)
                    have Cw := Lib.hid (wT.out.keep (ag.any iC))
                    obtain ⟨ys, fK, eu⟩ := uN.out.own.push p Cw.out
                    rw [Kr] at fK eu
                    have wQ := Lib.hid fK
                    have wK := Lib.hid eu
                    have AP := Lib.hid (Rd.new w5 98 16 1 [v0, v1, v2, v3, v4, v5, v6, v7, v8, v9, v10, v11, v12, lO, mF, nG] rfl)
                    have qu := Lib.hid wT.out.one.2
                    have hsz : C + 1 ≤ (w5.alloc (.cells #[v0, v1, v2, v3, v4, v5, v6, v7, v8, v9, v10, v11, v12, lO, mF, nG] 98)).heap.size := Nat.le_trans OE iC.size
                    have r8 : (w5.alloc (.cells #[v0, v1, v2, v3, v4, v5, v6, v7, v8, v9, v10, v11, v12, lO, mF, nG] 98)).cell? ⟨w.heap.size, 0, none⟩ = some (.slice Av al cv) := uN.out.res.cell 0
                    clear iC fK eu
                    go_simp
                    try dsimp only
                    refine hK.out _ _ trivial (fun _ => ?_)
                    clear hK K
                    try simp only [Act.put, List.setIfInBounds_toArray, List.set_cons_zero, List.set_cons_succ]
                    refine aQ (i := 0) (o := ⟨some 37, _, _, _, _, _⟩) (by kernel_rfl) rfl (fun K hK => ?_)
                    go_simp
                    try dsimp only
                    refine hK.out _ _ trivial (fun _ => ?_)
                    clear hK K
                    try simp only [zp, za, z0, zs]
                    refine aQ (i := 4) (o := ⟨some 41, _, _, _, _, _⟩) (by kernel_rfl) rfl (fun K hK => ?_)
                    refine eV _ rfl (.tmp 37) (.tmp 40) 41 rfl (C + 1) 98 i0 _ 16 232 Tryz.underlying41 GO u0 z1 z2 rfl (by decide) _ _ _ rfl wQ.out (w5.heap.size + 1) (some ⟨w5.heap.size, 0, none⟩) 1 1 [v0, v1, v2, v3, v4, v5, v6, v7, v8, v9, v10, v11, v12, lO, mF, nG] rfl AP.out qu.out (by simp only [maxLen]; omega) (by omega) hsz ?_
                    intro v' w9 aB
                    obtain ⟨A9, c9, Iv, _⟩ := (wK.out v' w9 aB).form
                    rw [Qh.out] at Iv
                    subst Iv
                    have qd := Lib.hid (uN.out.push wQ.out aB (wK.out _ w9 aB) hsz)
                    have dn := aB.below hsz wQ.out
                    have x9 : w9.cell? ⟨w.heap.size, 0, none⟩ = some (.slice Av al cv) := (dn.cell (p := ⟨w.heap.size, 0, none⟩) (show w.heap.size < C + 1 by omega)).trans (uN.out.res.cell 0)
                    have G9 : au w9 w.heap.size 41 #[.slice Av al cv] := (dn.block w.heap.size (by omega)).trans uN.out.res
                    have y9 := G9.frozen 0
                    have K4 := dn.size
                    clear aB
                    try dsimp only
                    refine hK.out _ _ trivial (fun _ => ?_)
                    clear hK K
                    try simp only [zp, za, z0, zs]
                    refine aQ (i := 5) (by kernel_rfl) rfl (fun K hK => ?_)
                    go_simp
                    try dsimp only
                    refine hK.out _ _ trivial (fun _ => ?_)
                    clear hK K
                    try simp only [Act.put, List.setIfInBounds_toArray, List.set_cons_zero, List.set_cons_succ]
                    refine cL (by kernel_rfl) ?_ _
                    go_wp2_with fail
                    go_meet
                    exact ⟨_, qd.out, by simpa using Nat.le_trans hsz K4⟩
              -- ok}
            case rest =>
              obtain ⟨v6, QS, Yy⟩ := hcut
              have pz := Lib.hid QS
              have aa1 : al < 200 := by have := HM.out; omega
              clear QS r4
              go_wp2_with fail
              refine (qR.out _ j2 pz.out.cur).mono ?_
              rintro e w7 ⟨rfl, qp, iS⟩
              have sV := Lib.hid (pz.out.step qp iS)
              have Yz : C + 1 ≤ w7.heap.size := Nat.le_trans Yy iS.1
              clear qp iS
              obtain ⟨b, hb⟩ : ∃ b, ai L j2 = b := ⟨_, rfl⟩
              have HB := Lib.hid hb
              rw [hb] at sV
              clear hb
              have KI := Lib.hid (E0.out _ b 59 sV.out.cur (by decide))
              cases hnd : aW L b 59 with
              | error e0 =>
                obtain ⟨x, q⟩ := e0
                have HE := Lib.hid (pg.out.trans (Dg (by rw [HA.out]; have := Ye.out; omega) (by rw [Kr]; exact HM.out) (by rw [HA.out]; exact HP.out) (by rw [HB.out]; exact hnd)))
                have ni := Lib.hid (j9.out x q HE.out)
                have hx := Xl.out x q HE.out
                rw [hnd] at KI
                clear hnd
                go_wp2_with fail
                refine KI.out.mono ?_
                rintro e w8 ⟨he, iC⟩
                unfold aZ at he
                subst he
                have Xp := (iC.2.2.2.2 _ sV.out.res.lt (by omega)).trans sV.out.res
                have Sp := (iC.2.2.2.2 _ sV.out.flt.lt (by omega)).trans sV.out.flt
                have Vn := Lib.hid Xp
                have wu := Lib.hid Sp
                have Ep := Lib.hid (sV.out.below.trans (iC.to sV.out.below.size (by omega)))
                clear iC Xp Sp
                go_wp2_with fail
                refine gr _ (w.heap.size + 1) w.heap.size w.heap.size x q 0 0 _ _ _ _ _ rfl rfl wu.out Vn.out (by omega) (by omega) (Nat.le_refl _) Ep.out.size hx (fun W2 bn => ?_)
                rw [ni.out]
                exact ⟨⟨none, 0, 0, rfl, eG.nil _ _, Nat.le_refl _⟩, Ep.out.trans bn⟩
              | ok k =>
                have hM := Lib.hid (pg.out.trans (Di (by rw [HA.out]; have := Ye.out; omega) (by rw [Kr]; exact HM.out) (by rw [HA.out]; exact HP.out) (by rw [HB.out]; exact hnd)))
                have HKB := Lib.hid (show k = b + 1 from (fF hnd).1)
                have Eg := Lib.hid (Ik HV.out.ok (by rw [X4.out]; exact Xv) HP.out)
                rw [hnd] at KI
                clear hnd
                go_wp2_with fail
                refine KI.out.mono ?_
                rintro e w8 ⟨rfl, En, iC⟩
                have wu := Lib.hid (sV.out.step En iC)
                have hC8 : C + 1 ≤ w8.heap.size := Nat.le_trans Yz iC.1
                clear En iC
                go_wp2_with fail
                refine (qR.out _ k wu.out.cur).mono ?_
                rintro e w9 ⟨rfl, GX, dn⟩
                have qd := Lib.hid (wu.out.step GX dn)
                have hC9 : C + 1 ≤ w9.heap.size := Nat.le_trans hC8 dn.1
                clear GX dn
                go_wp2_with fail
                have hge : a ≤ b := by have h1 := Eg.out.1; have h2 := de L j2; rw [HB.out] at h2; omega
                have hkb := HKB.out
                have hkn := wu.out.cur.le
                refine ⟨⟨f, k, acc ++ [p], v6, hkn, by omega, hM.out, by rw [List.length_append, Kr]; simp; omega, qd.out, hC9⟩, ?_⟩
                have e1 : w9.cell? ⟨C, 1, none⟩ = some (.int .i64 ((ai L k : Nat) : Int)) := qd.out.cur.ey.cell 1
                have e2 := sn.out
                have hle := qd.out.cur.le
                have ZD := de L k
                rw [e1, e2]
                simp only [Int.toNat_natCast, List.getElem?_toArray, List.getElem?_cons_succ, List.getElem?_cons_zero]
                omega
end Go.Proofs.YthnhbcohfoodlaaGreatDoor
