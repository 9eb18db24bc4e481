/- WkPartC -/
import Derived.Test.YthnhbcohfoodlaaGreatDoorZq46
import Derived.Test.YthnhbcohfoodlaaGreatDoorZq41
import Derived.Test.YthnhbcohfoodlaaGreatDoorZq1
set_option maxHeartbeats 12800000
set_option maxRecDepth 100000
namespace Go.Proofs.YthnhbcohfoodlaaGreatDoor
open Go.RowKit
theorem sC {L : List Int} {r r2 : Except (Int × Nat) Nat} (o9 : ep L r 0 = 60 → ∀ j, r = .ok j → pk L (j + 1) ≠ 62) (nU : ep L r 0 ≠ 62) (h : r.bind (fun j => aH L j 60) = r2) : r.bind (cl L) = r2.map (fun k => (2, k)) := by
 subst h;cases r with
 | error e => rfl
 | ok j =>
  show cl L j = (aH L j 60).map (fun k => (2, k));unfold cl;rw [if_neg (show ¬ pk L j = 62 from nU), if_neg (fun x => o9 x.1 j rfl x.2)];cases aH L j 60 <;> rfl
def wE (r : Except (Int × Nat) Nat) (x : Int) (q : Nat) : Except (Int × Nat) Nat := match r with | .ok m => if x = 0 then .ok m else .error (x, q) | .error e => .error e
theorem JP (lo : Nat) (w : World) (C : Nat) (A : Option Addr) (n c : Nat) (L : List Int) (i : Int) (m : Nat) (h : cD lo w C A n c L i (.ok m)) (x q : Int) (qn : Nat) (hq : q = (qn : Int)) : Calls Tryz.prog 44 #[.pointer (some ⟨C, 0, none⟩), .int .i64 x, .int .i64 q] w fun e w' => e = .returned (.tuple #[]) ∧ cD lo w' C A n c L i (wE (.ok m) x qn) ∧ aF w C w' := by
 by_cases hx : x = 0
 ·subst hx;obtain ⟨p, rfl, h2, h3⟩ := h.good;refine (dY w C A n c L m p 0 q h3.wk).mono ?_;rintro e w1 ⟨rfl, hc, hb⟩;exact ⟨rfl, .gu (h3.but hc hb) h2, hb⟩
 have := oZ lo w C A n c L i (.ok m) h x q qn hx (fun _ _ => hq);rw [show wE (.ok m) x qn = .error (x, qn) from if_neg hx];exact this
theorem vY {o : Oper} {a : Act} {w : World} {ty t : TypeId} {x : Operand} {g : Nat} {cs : Array Value} (ho : o.op = .load ty x) (hu : ∃ fs, Tryz.prog.underlying ty = some (.struct fs)) (hi : (Tryz.prog.info? ty).map (·.size) = some cs.size) (hx : a.eval x = .pointer (some ⟨g, 0, none⟩)) (hb : aM w g t cs) : (execOp a.eval o).run Tryz.prog w = .ok (.value (.agg cs)) w := by
 obtain ⟨fs, hu⟩ := hu;unfold execOp;rw [ho];simp only [hx, Instr.loadAt, Instr.sureAddr, Sem.run_bind, Sem.run_pure, Result.andThen, run_loadVar_row w g t ty cs (0, 0) (.struct fs) hb hu rfl hi]
theorem Br {L : List Int} {d1 d2 : bp} {dir : Int} {r0 r1 r2 r3 : Except (Int × Nat) Nat} (h1 : r0.bind (cj L) = r1.map (fun k => (d1, k))) (h2 : r1.bind (cl L) = r2.map (fun k => (dir, k))) (h3 : r2.bind (cj L) = r3.map (fun k => (d2, k))) :
    r0.bind (fB L) = (wE r3 (gf ⟨2, bF, [], dir, d1, d2⟩) (atR r0)).map (fun k => (⟨2, bF, [], dir, d1, d2⟩, k)) := by
 cases r0 with
 | error e =>
  cases r1 with
  | ok _ => cases h1
  | error e1 =>
   injection h1 with h1; subst h1;cases r2 with
   | ok _ => cases h2
   | error e2 =>
    injection h2 with h2; subst h2;cases r3 with
    | ok _ => cases h3
    | error e3 => injection h3 with h3; subst h3; rfl
 | ok i =>
  show fB L i = _;cases r1 with
  | error e1 =>
   rw [nc h1];cases r2 with
   | ok _ => cases h2
   | error e2 =>
    injection h2 with h2; subst h2;cases r3 with
    | ok _ => cases h3
    | error e3 => injection h3 with h3; subst h3; rfl
  | ok j =>
   cases r2 with
   | error e2 =>
    rw [lJ h1 h2];cases r3 with
    | ok _ => cases h3
    | error e3 => injection h3 with h3; subst h3; rfl
   | ok k =>
    cases r3 with
    | error e3 => rw [lq h1 h2 h3]; rfl
    | ok m =>
     rw [rC h1 h2 h3];show _ = (if gf _ = 0 then (Except.ok m : Except (Int × Nat) Nat) else .error (_, i)).map _;by_cases hp : gf ⟨2, bF, [], dir, d1, d2⟩ = 0
     ·rw [if_neg (fun h => h hp), if_pos hp]; rfl
     rw [if_pos hp, if_neg hp]; rfl
theorem vv (w : World) (C : Nat) (A : Option Addr) (n c : Nat) (L : List Int) (i0 : Int) (r0 : Except (Int × Nat) Nat) (h : cD w.heap.size w C A n c L i0 r0) (hL : cA L) (hn : n ≤ 100000) (jR : ep L r0 0 ≠ 58) (hv : ∀ i, r0 = .ok i → ¬ (pk L i = 36 ∧ pk L (aj L (aI L (i + 1))) = 61)) :
    Calls Tryz.prog 62 #[.pointer (some ⟨C, 0, none⟩)] w (vp w C A n c L (r0.bind (fB L))) := by
  have hl := h.len
  have HL := Lib.hid hL
  have fA := Lib.hid (fun (W : World) (i : Int) (r : Except (Int × Nat) Nat) (h : cD w.heap.size W C A n c L i r) => show Calls Tryz.prog 61 #[.pointer (some ⟨C, 0, none⟩), .int .i64 0] W fun e w' => e = .returned (.int .i32 (ep L r 0)) ∧ cD w.heap.size w' C A n c L i r ∧ aF W C w' from pH w.heap.size W C A n c L i r h 0 (Nat.zero_le _))
  have CP := Lib.hid (fun (W : World) (i : Int) (r : Except (Int × Nat) Nat) (h : cD w.heap.size W C A n c L i r) => rG w.heap.size W C A n c L i r h)
  have nV := Lib.hid (fun (W : World) (i : Int) (r : Except (Int × Nat) Nat) (h : cD w.heap.size W C A n c L i r) (x : Int) (hx : x ≠ -1) => wg w.heap.size W C A n c L i r h x hx)
  have Bg := Lib.hid (fun (W : World) (i : Int) (r : Except (Int × Nat) Nat) (h : cD w.heap.size W C A n c L i r) => Ak w.heap.size W C A n c L i r h)
  have eF := Lib.hid (fun (W : World) (i : Int) (r : Except (Int × Nat) Nat) (h : cD w.heap.size W C A n c L i r) => Dl w.heap.size W C A n c L i r h hL hn)
  have Fb := Lib.hid (fun (W : World) (i : Int) (r : Except (Int × Nat) Nat) (h : cD w.heap.size W C A n c L i r) (x q : Int) (qn : Nat) (hx : x ≠ 0) (hq : ∀ j, r = .ok j → q = (qn : Int)) => oZ w.heap.size W C A n c L i r h x q qn hx hq)
  have iZ := Lib.hid h.lt
  have lC := Lib.hid (sQ w C A n c L i0 r0 h)
  have tK := Lib.hid (fun (W : World) (i : Int) (r : Except (Int × Nat) Nat) (h : cD w.heap.size W C A n c L i r) => show Calls Tryz.prog 61 #[.pointer (some ⟨C, 0, none⟩), .int .i64 1] W fun e w' => e = .returned (.int .i32 (ep L r 1)) ∧ cD w.heap.size w' C A n c L i r ∧ aF W C w' from pH w.heap.size W C A n c L i r h 1 (Nat.le_refl _))
  have Fv := Lib.hid (fun (W : World) (i : Int) (r : Except (Int × Nat) Nat) (h : cD w.heap.size W C A n c L i r) (hlo : w.heap.size ≤ W.heap.size) => Ih w.heap.size W C A n c L i r h hlo hL hn)
  have JV := Lib.hid (fun (W : World) (i : Int) (r : Except (Int × Nat) Nat) (h : cD w.heap.size W C A n c L i r) => show Calls Tryz.prog 43 #[.pointer (some ⟨C, 0, none⟩)] W fun e w' => e = .returned (.bool (Dn r)) ∧ w' = W from Eh w.heap.size W C A n c L i r h)
  obtain ⟨R, hR⟩ : ∃ R, r0.bind (fB L) = R := ⟨_, rfl⟩
  rw [hR]
  have HR := Lib.hid hR
  have Me := Lib.hid h.at_
  have HV := Lib.hid hv
  have Km : (ep L r0 0 == 58) = false := by rw [beq_eq_false_iff_ne]; exact jR
  clear h hL hR jR hv
  go_enter Tryz.func62, Tryz.ntmps62
  go_wp2_with fail
  refine (fA.out _ i0 r0 lC.out.cur).mono ?_
  rintro e w1 ⟨rfl, dh, aT⟩
  have dP := Lib.hid (lC.out.step dh aT)
  clear dh aT
  go_upto_if 61 with (go_at_call 61; refine (fA.out _ i0 r0 dP.out.cur).mono ?_; rintro e w2 ⟨rfl, dQ, aU⟩)
  have eZ := Lib.hid (dP.out.step dQ aU)
  clear dQ aU
  go_cut [] (fun wx => jb w C A n c L wx i0 r0)
  case first =>
    by_cases fc : ep L r0 0 = 36
    · obtain ⟨i, rfl, hpk, rfl, hlt⟩ := eZ.out.cur.mU fc (by decide)
      obtain ⟨k, hk⟩ : ∃ k, aj L (aI L (i + 1)) = k := ⟨_, rfl⟩
      have hkn : k ≤ n := by rw [← hk, ← hl]; exact gn (dZ (by omega))
      have IZ : pk L k ≠ 61 := by rw [← hk]; exact fun h => HV.out i rfl ⟨hpk, h⟩
      have HK := Lib.hid hk
      obtain ⟨T, hT⟩ : ∃ T, cI L (i + 1) = T := ⟨_, rfl⟩
      have HT := Lib.hid hT
      have Va : (pk L k == 61) = false := by rw [beq_eq_false_iff_ne]; exact IZ
      rw [fc]
      clear fc hpk hk hT IZ Km
      obtain ⟨p0, BU⟩ : ∃ p0, iT w.heap.size w2 C A n c L (i : Int) 0 p0 := by obtain ⟨p, _, _, h3⟩ := eZ.out.cur.good; exact ⟨p, h3⟩
      have x0 := BU.wk.c0
      have x1 := BU.wk.c1
      have x2 := BU.wk.c2
      have x3 := BU.wk.c3
      have qd : IntKind.i64.wrap ((i : Int) + 1) = ((i : Int) + 1) := wrap_small _ (by omega) (by omega)
      have hD : w.heap.size < w2.heap.size := eZ.out.res.lt
      have bN : Below w2.heap.size w2 (w2.alloc (.cells #[.slice A n c, .int .i64 (i : Int), .int .i64 0, .int .i64 p0] 103)) := (Below.refl _ _).alloc (Nat.le_refl _) _
      have eI := Lib.hid (eZ.out.below bN)
      have Ie := Lib.hid ((BU.below (bN.mono (Nat.le_of_lt hD))).copy (aM.new w2 103 #[.slice A n c, .int .i64 (i : Int), .int .i64 0, .int .i64 p0]) (Nat.le_of_lt hD))
      clear BU bN
      go_upto_region 14 with fail
      clear x0 x1 x2 x3
      generalize w2.alloc (.cells #[.slice A n c, .int .i64 (i : Int), .int .i64 0, .int .i64 p0] 103) = w3 at *
      obtain ⟨d1, d2, d3, d4⟩ := Ie.out.step
      have KS := Lib.hid (show aO (w3.setCell ⟨w2.heap.size, 1, none⟩ (.int .i64 ((i : Int) + 1))) w2.heap.size A n c L ((i + 1 : Nat) : Int) 0 p0 from d3)
      have ee := Lib.hid (eI.out.other d4 hD)
      have e1 := d3.c1
      have Jg := Lib.hid (qH _ w2.heap.size A n c L (i + 1) p0 KS.out (by omega))
      rw [HT.out] at Jg
      clear d3 d4
      go_wp2_with fail
      refine Jg.out.mono ?_
      rintro e w5 ⟨rfl, _, eV, cr⟩
      have Pq := Lib.hid eV
      have eo := Lib.hid (ee.out.other cr hD)
      have hwn : aI L (i + 1) ≤ n := by rw [← hl]; exact dZ (by omega)
      have JV := Lib.hid (qJ w5 w2.heap.size A n c L (aI L (i + 1)) p0 eV hwn)
      rw [HK.out] at JV
      clear eV cr d1 d2 e1
      go_wp2_with fail
      refine JV.out.mono ?_
      rintro e w6 ⟨rfl, g9, ck⟩
      have LX := Lib.hid g9
      have fY := Lib.hid (eo.out.other ck hD)
      have Fv := Lib.hid (gJ w6 w2.heap.size A n c L k p0 g9 hkn)
      clear g9 ck
      go_wp2_with fail
      refine Fv.out.mono ?_
      rintro e w7 ⟨rfl, m7, yx⟩
      have Kk := Lib.hid (LX.out.drewN m7)
      have ju := Lib.hid (fY.out.below (below_drewN (Below.refl _ _) m7))
      rw [← yx] at Kk ju
      clear yx
      go_wp2_with fail
      go_meet
      exact ju.out
    · have GV : (ep L r0 0 == 36) = false := by rw [beq_eq_false_iff_ne]; exact fc
      go_wp2_with fail
      go_meet
      exact eZ.out
  case rest =>
    have vF := Lib.hid hcut
    have c1 := hcut.cur.c1
    clear hcut lC dP eZ Km HV
    go_wp2_with fail
    refine (Fv.out _ i0 r0 vF.out.cur vF.out.but.1).mono ?_
    rintro e w3 ⟨d1, u1, u2, u3, rfl, hy1, E7, E8, bN, _, _, i3, r3, eC, RU⟩
    obtain ⟨L1, a1, x1, rfl, _⟩ := hy1.form
    obtain ⟨L2, a2, x2, rfl, _⟩ := E7.form
    obtain ⟨L3, a3, x3, rfl, _⟩ := E8.form
    have Jt := Lib.hid RU
    have eI := Lib.hid (vF.out.step eC bN)
    have kG : w.heap.size < w3.heap.size := eI.out.res.lt
    have SZ := vF.out.res.lt
    have wM : w3.heap.size ≠ C := by have := iZ.out; omega
    obtain ⟨ls, lf, lb, vP, la, lc⟩ := d1
    dsimp only at hy1 E7 E8 ⊢
    have ij := aM.new w3 98 #[.int .i64 2, .string ⟨#[]⟩, .slice none 0 0, .int .i64 0, .bool ls, .bool lf, .slice L1 a1 x1, .slice L2 a2 x2, .slice L3 a3 x3, .int .i64 lc, .bool false, .bool false, .slice none 0 0, .slice none 0 0, .slice none 0 0, .int .i64 0]
    have C8 : Below w3.heap.size w3 (w3.alloc (.cells #[.int .i64 2, .string ⟨#[]⟩, .slice none 0 0, .int .i64 0, .bool ls, .bool lf, .slice L1 a1 x1, .slice L2 a2 x2, .slice L3 a3 x3, .int .i64 lc, .bool false, .bool false, .slice none 0 0, .slice none 0 0, .slice none 0 0, .int .i64 0] 98)) := (Below.refl _ _).alloc (Nat.le_refl _) _
    have ee := Lib.hid (eI.out.below C8)
    have cG := Lib.hid ij
    have hkk : aC w3 (fun b => wc.heap.size + 2 ≤ b ∧ b ≠ C) (w3.alloc (.cells #[.int .i64 2, .string ⟨#[]⟩, .slice none 0 0, .int .i64 0, .bool ls, .bool lf, .slice L1 a1 x1, .slice L2 a2 x2, .slice L3 a3 x3, .int .i64 lc, .bool false, .bool false, .slice none 0 0, .slice none 0 0, .slice none 0 0, .int .i64 0] 98)) (fun b => iN w C b ∧ b ≠ w3.heap.size) := aC.alloc _ (fun b hb hl => ⟨⟨by have := hb.1; omega, hb.2⟩, by omega⟩)
    have Hy := Lib.hid (hy1.keep hkk)
    have GD := Lib.hid (E7.keep hkk)
    have G7 := Lib.hid (E8.keep hkk)
    clear C8 ij hy1 E7 E8 hkk eC bN RU c1
    go_upto_block 0 with fail
    generalize w3.alloc (.cells #[.int .i64 2, .string ⟨#[]⟩, .slice none 0 0, .int .i64 0, .bool ls, .bool lf, .slice L1 a1 x1, .slice L2 a2 x2, .slice L3 a3 x3, .int .i64 lc, .bool false, .bool false, .slice none 0 0, .slice none 0 0, .slice none 0 0, .int .i64 0] 98) = w4 at *
    go_cut [] (fun wx => ∃ (dir : Int) (i : Int) (r : Except (Int × Nat) Nat), r3.bind (cl L) = r.map (fun k => (dir, k)) ∧ 1 ≤ dir ∧ dir ≤ 3 ∧ jb w C A n c L wx i r ∧ aM wx w3.heap.size 98 #[.int .i64 2, .string ⟨#[]⟩, .slice none 0 0, .int .i64 dir, .bool ls, .bool lf, .slice L1 a1 x1, .slice L2 a2 x2, .slice L3 a3 x3, .int .i64 lc, .bool false, .bool false, .slice none 0 0, .slice none 0 0, .slice none 0 0, .int .i64 0] ∧ aJ wx (fun b => iN w C b ∧ b ≠ w3.heap.size) (.slice L1 a1 x1) lb ∧ aJ wx (fun b => iN w C b ∧ b ≠ w3.heap.size) (.slice L2 a2 x2) vP ∧ aJ wx (fun b => iN w C b ∧ b ≠ w3.heap.size) (.slice L3 a3 x3) la)
    case first =>
      go_wp2_with fail
      refine (fA.out _ i3 r3 ee.out.cur).mono ?_
      rintro e w5 ⟨rfl, eV, cr⟩
      have eo := Lib.hid (ee.out.step eV cr)
      have dM := Lib.hid (cV cG.out cr wM)
      have GY := Lib.hid (aJ.keep (cr.keeps (fun b h => h.1.2) (fun _ h _ => h)) Hy.out)
      have Hw := Lib.hid (aJ.keep (cr.keeps (fun b h => h.1.2) (fun _ h _ => h)) GD.out)
      have Hl := Lib.hid (aJ.keep (cr.keeps (fun b h => h.1.2) (fun _ h _ => h)) G7.out)
      clear eV cr
      by_cases o9 : ep L r3 0 = 60
      · obtain ⟨j, rfl, hpk, rfl, hlt⟩ := eo.out.cur.mU o9 (by decide)
        rw [o9]
        go_wp2_with fail
        refine (tK.out _ j (.ok j) eo.out.cur).mono ?_
        rintro e w6 ⟨rfl, g9, ck⟩
        have fY := Lib.hid (eo.out.step g9 ck)
        have fu := Lib.hid (cV dM.out ck wM)
        have AF := Lib.hid (aJ.keep (ck.keeps (fun b h => h.1.2) (fun _ h _ => h)) GY.out)
        have AJ := Lib.hid (aJ.keep (ck.keeps (fun b h => h.1.2) (fun _ h _ => h)) Hw.out)
        have AI := Lib.hid (aJ.keep (ck.keeps (fun b h => h.1.2) (fun _ h _ => h)) Hl.out)
        clear g9 ck
        by_cases nU : ep L (.ok j) 1 = 62
        · have hj2 : j + 1 < n := by rw [← hl]; exact aS (show pk L (j + 1) ≠ -1 by rw [show pk L (j + 1) = 62 from nU]; decide)
          have H8 := Lib.hid (show (Except.ok j : Except (Int × Nat) Nat).bind (cl L) = (Except.ok (j + 2) : Except (Int × Nat) Nat).map (fun k => (3, k)) by
            show cl L j = .ok (3, j + 2)
            unfold cl
            rw [if_neg (by rw [show pk L j = 60 from hpk]; decide), if_pos ⟨hpk, nU⟩])
          have Ki : IntKind.i64.wrap ((j : Int) + 2) = ((j + 2 : Nat) : Int) := by rw [wrap_small _ (by omega) (by omega)]; omega
          rw [nU]
          clear o9 nU hpk
          have Vn := fu.out.cell 3
          have UG := fu.out.frozen 3
          have Lj := Lib.hid (fY.out.put kG 3 (.int .i64 3))
          have Pu := Lib.hid (show aM (w6.setCell ⟨w3.heap.size, 3, none⟩ (.int .i64 3)) w3.heap.size 98 #[.int .i64 2, .string ⟨#[]⟩, .slice none 0 0, .int .i64 3, .bool ls, .bool lf, .slice L1 a1 x1, .slice L2 a2 x2, .slice L3 a3 x3, .int .i64 lc, .bool false, .bool false, .slice none 0 0, .slice none 0 0, .slice none 0 0, .int .i64 0] from fu.out.put 3 _)
          have Jc := Lib.hid (aJ.keep (aC.setCell (p := ⟨w3.heap.size, 3, none⟩) (.int .i64 3) (fun b h => h.2) (fun _ h _ => h)) AF.out)
          have ID := Lib.hid (aJ.keep (aC.setCell (p := ⟨w3.heap.size, 3, none⟩) (.int .i64 3) (fun b h => h.2) (fun _ h _ => h)) AJ.out)
          have J0 := Lib.hid (aJ.keep (aC.setCell (p := ⟨w3.heap.size, 3, none⟩) (.int .i64 3) (fun b h => h.2) (fun _ h _ => h)) AI.out)
          obtain ⟨UR, _, _, Gv⟩ := Lj.out.cur.good
          have UJ := Gv.wk.c1
          have SK := Gv.wk.fz 1
          have O2 := Lib.hid (Lj.out.step (show cD w.heap.size (_) C A n c L ((j + 2 : Nat) : Int) (.ok (j + 2)) from cD.gu (Gv.put ((j + 2 : Nat) : Int)) (by omega)) (aF.set _ C 1 _))
          have Jn := Lib.hid (cV Pu.out (aF.set _ C 1 (.int .i64 ((j + 2 : Nat) : Int))) wM)
          have Jd := Lib.hid (aJ.keep ((aF.set _ C 1 (.int .i64 ((j + 2 : Nat) : Int))).keeps (fun b h => h.1.2) (fun _ h _ => h)) Jc.out)
          have IL := Lib.hid (aJ.keep ((aF.set _ C 1 (.int .i64 ((j + 2 : Nat) : Int))).keeps (fun b h => h.1.2) (fun _ h _ => h)) ID.out)
          have Ji := Lib.hid (aJ.keep ((aF.set _ C 1 (.int .i64 ((j + 2 : Nat) : Int))).keeps (fun b h => h.1.2) (fun _ h _ => h)) J0.out)
          clear Gv
          go_wp2_with fail
          go_meet
          exact ⟨3, _, .ok (j + 2), H8.out, by decide, by decide, O2.out, Jn.out, Jd.out, IL.out, Ji.out⟩
        · have Si : (ep L (.ok j) 1 == 62) = false := by rw [beq_eq_false_iff_ne]; exact nU
          have OU := Lib.hid (fun (r2 : Except (Int × Nat) Nat) (h : (Except.ok j : Except (Int × Nat) Nat).bind (fun j => aH L j 60) = r2) => sC (fun _ j' hj' => by injection hj' with hj'; subst hj'; exact nU) (by rw [o9]; decide) h)
          have Tq := Lib.hid o9
          clear hpk o9 nU
          go_wp2_with fail
          refine (fA.out _ j (.ok j) fY.out.cur).mono ?_
          rintro e w7 ⟨rfl, fK, cZ⟩
          have ju := Lib.hid (fY.out.step fK cZ)
          have er := Lib.hid (cV fu.out cZ wM)
          have Db := Lib.hid (aJ.keep (cZ.keeps (fun b h => h.1.2) (fun _ h _ => h)) AF.out)
          have DA := Lib.hid (aJ.keep (cZ.keeps (fun b h => h.1.2) (fun _ h _ => h)) AJ.out)
          have Ey := Lib.hid (aJ.keep (cZ.keeps (fun b h => h.1.2) (fun _ h _ => h)) AI.out)
          clear fK cZ
          rw [Tq.out]
          have UN := er.out.cell 3
          have UK := er.out.frozen 3
          have Lx := Lib.hid (ju.out.put kG 3 (.int .i64 2))
          have Pt := Lib.hid (show aM (w7.setCell ⟨w3.heap.size, 3, none⟩ (.int .i64 2)) w3.heap.size 98 #[.int .i64 2, .string ⟨#[]⟩, .slice none 0 0, .int .i64 2, .bool ls, .bool lf, .slice L1 a1 x1, .slice L2 a2 x2, .slice L3 a3 x3, .int .i64 lc, .bool false, .bool false, .slice none 0 0, .slice none 0 0, .slice none 0 0, .int .i64 0] from er.out.put 3 _)
          have Jm := Lib.hid (aJ.keep (aC.setCell (p := ⟨w3.heap.size, 3, none⟩) (.int .i64 2) (fun b h => h.2) (fun _ h _ => h)) Db.out)
          have II := Lib.hid (aJ.keep (aC.setCell (p := ⟨w3.heap.size, 3, none⟩) (.int .i64 2) (fun b h => h.2) (fun _ h _ => h)) DA.out)
          have IU := Lib.hid (aJ.keep (aC.setCell (p := ⟨w3.heap.size, 3, none⟩) (.int .i64 2) (fun b h => h.2) (fun _ h _ => h)) Ey.out)
          go_wp2_with fail
          refine (nV.out _ j (.ok j) Lx.out.cur 60 (by decide)).mono ?_
          rintro e Vg ⟨rfl, ⟨U1, MW⟩, BC⟩
          have QA := Lib.hid (Lx.out.step MW BC)
          have JY := Lib.hid (cV Pt.out BC wM)
          have IN := Lib.hid (aJ.keep (BC.keeps (fun b h => h.1.2) (fun _ h _ => h)) Jm.out)
          have JB := Lib.hid (aJ.keep (BC.keeps (fun b h => h.1.2) (fun _ h _ => h)) II.out)
          have IC := Lib.hid (aJ.keep (BC.keeps (fun b h => h.1.2) (fun _ h _ => h)) IU.out)
          clear MW BC
          go_wp2_with fail
          go_meet
          exact ⟨2, _, _, OU.out _ rfl, by decide, by decide, QA.out, JY.out, IN.out, JB.out, IC.out⟩
      · have O6 : (ep L r3 0 == 60) = false := by rw [beq_eq_false_iff_ne]; exact o9
        go_wp2_with fail
        refine (fA.out _ i3 r3 eo.out.cur).mono ?_
        rintro e w8 ⟨rfl, jh, bB⟩
        have gM := Lib.hid (eo.out.step jh bB)
        have jG := Lib.hid (cV dM.out bB wM)
        have wZ := Lib.hid (aJ.keep (bB.keeps (fun b h => h.1.2) (fun _ h _ => h)) GY.out)
        have xO := Lib.hid (aJ.keep (bB.keeps (fun b h => h.1.2) (fun _ h _ => h)) Hw.out)
        have yL := Lib.hid (aJ.keep (bB.keeps (fun b h => h.1.2) (fun _ h _ => h)) Hl.out)
        clear jh bB
        by_cases nU : ep L r3 0 = 62
        · obtain ⟨j, rfl, hpk, rfl, hlt⟩ := gM.out.cur.mU nU (by decide)
          have H8 := Lib.hid (show (Except.ok j : Except (Int × Nat) Nat).bind (cl L) = (Except.ok (j + 1) : Except (Int × Nat) Nat).map (fun k => (1, k)) by
            show cl L j = .ok (1, j + 1)
            unfold cl
            rw [if_pos (show pk L j = 62 from hpk)])
          have Ki : IntKind.i64.wrap ((j : Int) + 1) = ((j + 1 : Nat) : Int) := by rw [wrap_small _ (by omega) (by omega)]; omega
          rw [nU]
          clear o9 nU hpk O6
          have UL := jG.out.cell 3
          have UO := jG.out.frozen 3
          have L8 := Lib.hid (gM.out.put kG 3 (.int .i64 1))
          have Qq := Lib.hid (show aM (w8.setCell ⟨w3.heap.size, 3, none⟩ (.int .i64 1)) w3.heap.size 98 #[.int .i64 2, .string ⟨#[]⟩, .slice none 0 0, .int .i64 1, .bool ls, .bool lf, .slice L1 a1 x1, .slice L2 a2 x2, .slice L3 a3 x3, .int .i64 lc, .bool false, .bool false, .slice none 0 0, .slice none 0 0, .slice none 0 0, .int .i64 0] from jG.out.put 3 _)
          have J8 := Lib.hid (aJ.keep (aC.setCell (p := ⟨w3.heap.size, 3, none⟩) (.int .i64 1) (fun b h => h.2) (fun _ h _ => h)) wZ.out)
          have IK := Lib.hid (aJ.keep (aC.setCell (p := ⟨w3.heap.size, 3, none⟩) (.int .i64 1) (fun b h => h.2) (fun _ h _ => h)) xO.out)
          have JX := Lib.hid (aJ.keep (aC.setCell (p := ⟨w3.heap.size, 3, none⟩) (.int .i64 1) (fun b h => h.2) (fun _ h _ => h)) yL.out)
          obtain ⟨Vi, _, _, FN⟩ := L8.out.cur.good
          have UY := FN.wk.c1
          have S8 := FN.wk.fz 1
          have Q3 := Lib.hid (L8.out.step (show cD w.heap.size (_) C A n c L ((j + 1 : Nat) : Int) (.ok (j + 1)) from cD.gu (FN.put ((j + 1 : Nat) : Int)) (by omega)) (aF.set _ C 1 _))
          have Ii := Lib.hid (cV Qq.out (aF.set _ C 1 (.int .i64 ((j + 1 : Nat) : Int))) wM)
          have I9 := Lib.hid (aJ.keep ((aF.set _ C 1 (.int .i64 ((j + 1 : Nat) : Int))).keeps (fun b h => h.1.2) (fun _ h _ => h)) J8.out)
          have JN := Lib.hid (aJ.keep ((aF.set _ C 1 (.int .i64 ((j + 1 : Nat) : Int))).keeps (fun b h => h.1.2) (fun _ h _ => h)) IK.out)
          have Jl := Lib.hid (aJ.keep ((aF.set _ C 1 (.int .i64 ((j + 1 : Nat) : Int))).keeps (fun b h => h.1.2) (fun _ h _ => h)) JX.out)
          clear FN
          go_wp2_with fail
          go_meet
          exact ⟨1, _, .ok (j + 1), H8.out, by decide, by decide, Q3.out, Ii.out, I9.out, JN.out, Jl.out⟩
        · have Si : (ep L r3 0 == 62) = false := by rw [beq_eq_false_iff_ne]; exact nU
          have OU := Lib.hid (fun (r2 : Except (Int × Nat) Nat) (h : r3.bind (fun j => aH L j 60) = r2) => sC (fun h => absurd h o9) nU h)
          clear o9 nU O6
          have U7 := jG.out.cell 3
          have Vj := jG.out.frozen 3
          have Mh := Lib.hid (gM.out.put kG 3 (.int .i64 2))
          have Pn := Lib.hid (show aM (w8.setCell ⟨w3.heap.size, 3, none⟩ (.int .i64 2)) w3.heap.size 98 #[.int .i64 2, .string ⟨#[]⟩, .slice none 0 0, .int .i64 2, .bool ls, .bool lf, .slice L1 a1 x1, .slice L2 a2 x2, .slice L3 a3 x3, .int .i64 lc, .bool false, .bool false, .slice none 0 0, .slice none 0 0, .slice none 0 0, .int .i64 0] from jG.out.put 3 _)
          have JG := Lib.hid (aJ.keep (aC.setCell (p := ⟨w3.heap.size, 3, none⟩) (.int .i64 2) (fun b h => h.2) (fun _ h _ => h)) wZ.out)
          have Iy := Lib.hid (aJ.keep (aC.setCell (p := ⟨w3.heap.size, 3, none⟩) (.int .i64 2) (fun b h => h.2) (fun _ h _ => h)) xO.out)
          have JZ := Lib.hid (aJ.keep (aC.setCell (p := ⟨w3.heap.size, 3, none⟩) (.int .i64 2) (fun b h => h.2) (fun _ h _ => h)) yL.out)
          go_wp2_with fail
          refine (nV.out _ i3 r3 Mh.out.cur 60 (by decide)).mono ?_
          rintro e Vm ⟨rfl, ⟨Ve, LD⟩, Cw⟩
          have Qj := Lib.hid (Mh.out.step LD Cw)
          have Qv := Lib.hid (cV Pn.out Cw wM)
          have Jj := Lib.hid (aJ.keep (Cw.keeps (fun b h => h.1.2) (fun _ h _ => h)) JG.out)
          have I0 := Lib.hid (aJ.keep (Cw.keeps (fun b h => h.1.2) (fun _ h _ => h)) Iy.out)
          have IE := Lib.hid (aJ.keep (Cw.keeps (fun b h => h.1.2) (fun _ h _ => h)) JZ.out)
          clear LD Cw
          go_wp2_with fail
          go_meet
          exact ⟨2, _, _, OU.out _ rfl, by decide, by decide, Qj.out, Qv.out, Jj.out, I0.out, IE.out⟩
    case rest =>
      obtain ⟨dir, i6, r6, Ln, yS, Vl, C0, Mp, hy1, E7, E8⟩ := hcut
      have Hf := Lib.hid Ln
      have fY := Lib.hid C0
      have fu := Lib.hid Mp
      have AF := Lib.hid hy1
      have AJ := Lib.hid E7
      have AI := Lib.hid E8
      clear Ln C0 Mp hy1 E7 E8 eI ee cG Hy GD G7 vF
      go_wp2_with fail
      refine (Fv.out _ i6 r6 fY.out.cur fY.out.but.1).mono ?_
      rintro e w7 ⟨d2, v1, v2, v3, rfl, kR, kM, Au, cZ, _, _, i7, r7, fK, Rk⟩
      obtain ⟨R1, b1, y1, rfl, _⟩ := kR.form
      obtain ⟨R2, b2, y2, rfl, _⟩ := kM.form
      obtain ⟨R3, b3, y3, rfl, _⟩ := Au.form
      obtain ⟨rs, rf, rb, wL, ra, rc⟩ := d2
      dsimp only at kR kM Au ⊢
      have JU := Lib.hid Rk
      have U8 := fu.out.lt
      have Hh := fY.out.step fK cZ
      have oG := cV fu.out cZ wM
      have Db := Lib.hid (aJ.keep (cZ.keeps (fun b h => h.1.2) (fun _ h _ => h)) AF.out)
      have DA := Lib.hid (aJ.keep (cZ.keeps (fun b h => h.1.2) (fun _ h _ => h)) AJ.out)
      have Ey := Lib.hid (aJ.keep (cZ.keeps (fun b h => h.1.2) (fun _ h _ => h)) AI.out)
      have N1 : aC w7 (fun b => wc.heap.size + 2 ≤ b ∧ b ≠ C) w7 (fun b => iN w C b ∧ b ≠ w3.heap.size) := aC.refl (fun b hb => ⟨⟨by have := hb.1; omega, hb.2⟩, by have := hb.1; omega⟩)
      have kR := kR.keep N1
      have kM := kM.keep N1
      have Au := Au.keep N1
      have Ny := oG.cell 10
      have QJ := oG.frozen 10
      have LZ := oG.cell 11
      have QK := oG.frozen 11
      have M4 := oG.cell 12
      have OM := oG.frozen 12
      have Nh := oG.cell 13
      have Qw := oG.frozen 13
      have MB := oG.cell 14
      have Pv := oG.frozen 14
      have Nd := oG.cell 15
      have Pa := oG.frozen 15
      obtain ⟨Gs, hkp⟩ := yd (X := (fun b => iN w C b ∧ b ≠ w3.heap.size)) (X' := iN w C) (.int .i64 2) (.string ⟨#[]⟩) (.slice none 0 0) (.int .i64 dir) (.bool ls) (.bool lf) (.slice L1 a1 x1) (.slice L2 a2 x2) (.slice L3 a3 x3) (.int .i64 lc) (.bool rs) (.bool rf) (.slice R1 b1 y1) (.slice R2 b2 y2) (.slice R3 b3 y3) (.int .i64 rc) (.bool false) (.bool false) (.slice none 0 0) (.slice none 0 0) (.slice none 0 0) (.int .i64 0) oG (fun b h => h.2) (fun b h => h.1)
      have gM := Lib.hid ((((((Hh.put kG 10 (.bool rs)).put kG 11 (.bool rf)).put kG 12 (.slice R1 b1 y1)).put kG 13 (.slice R2 b2 y2)).put kG 14 (.slice R3 b3 y3)).put kG 15 (.int .i64 rc))
      have jG := Lib.hid Gs
      have wZ := Lib.hid (Db.out.keep hkp)
      have xO := Lib.hid (DA.out.keep hkp)
      have yL := Lib.hid (Ey.out.keep hkp)
      have GJ := Lib.hid (kR.keep hkp)
      have GC := Lib.hid (kM.keep hkp)
      have H6 := Lib.hid (Au.keep hkp)
      clear Hh oG hkp Gs kR kM Au fK cZ N1 Rk
      go_upto_region 35 with fail
      have Hv := gM.out
      have JR := jG.out
      have hy1 := wZ.out
      have E7 := xO.out
      have E8 := yL.out
      have kR := GJ.out
      have kM := GC.out
      have Au := H6.out
      clear gM jG wZ xO yL GJ GC H6 Ny QJ LZ QK M4 OM Nh Qw MB Pv Nd Pa
      generalize ((((((w7.setCell ⟨w3.heap.size, 10, none⟩ (.bool rs)).setCell ⟨w3.heap.size, 11, none⟩ (.bool rf)).setCell ⟨w3.heap.size, 12, none⟩ (.slice R1 b1 y1)).setCell ⟨w3.heap.size, 13, none⟩ (.slice R2 b2 y2)).setCell ⟨w3.heap.size, 14, none⟩ (.slice R3 b3 y3)).setCell ⟨w3.heap.size, 15, none⟩ (.int .i64 rc)) = w8 at *
      have cF := Lib.hid (HR.out.symm.trans (Br Jt.out Hf.out JU.out))
      have gM := Lib.hid Hv
      have jG := Lib.hid JR
      -- the part in memory, where it is good
      have tB := Lib.hid (fun (j : Nat) (h7 : r7 = .ok j) => show (de w8 (iN w C) L1 a1 lb ∧ de w8 (iN w C) L2 a2 vP ∧ de w8 (iN w C) L3 a3 la ∧ de w8 (iN w C) R1 b1 rb ∧ de w8 (iN w C) R2 b2 wL ∧ de w8 (iN w C) R3 b3 ra) ∧ (a1 ≤ maxLen ∧ a2 ≤ maxLen ∧ a3 ≤ maxLen ∧ b1 ≤ maxLen ∧ b2 ≤ maxLen ∧ b3 ≤ maxLen) ∧ dU lc ∧ dU rc ∧ i0 = (atR r0 : Int) by
        obtain ⟨j3, My⟩ : ∃ j3, r6 = .ok j3 := by
          have := JU.out
          rw [h7] at this
          cases r6 with
          | error e => cases this
          | ok j3 => exact ⟨j3, rfl⟩
        obtain ⟨j2, hj2⟩ : ∃ j2, r3 = .ok j2 := by
          have := Hf.out
          rw [My] at this
          cases r3 with
          | error e => cases this
          | ok j2 => exact ⟨j2, rfl⟩
        obtain ⟨j1, zL⟩ : ∃ j1, r0 = .ok j1 := by
          have := Jt.out
          rw [hj2] at this
          cases r0 with
          | error e => cases this
          | ok j1 => exact ⟨j1, rfl⟩
        have s1 : cj L j1 = .ok (⟨ls, lf, lb, vP, la, lc⟩, j2) := by have := Jt.out; rw [zL, hj2] at this; exact this
        have s2 : cj L j3 = .ok (⟨rs, rf, rb, wL, ra, rc⟩, j) := by have := JU.out; rw [My, h7] at this; exact this
        obtain ⟨g1, g2, g3⟩ := jr s1
        obtain ⟨g4, g5, g6⟩ := jr s2
        obtain ⟨_, _, _, e1, t1, m1⟩ := hy1.E3 g1
        cases e1
        obtain ⟨_, _, _, e2, t2, m2⟩ := E7.E3 g2
        cases e2
        obtain ⟨_, _, _, e3, t3, m3⟩ := E8.E3 g3
        cases e3
        obtain ⟨_, _, _, e4, t4, m4⟩ := kR.E3 g4
        cases e4
        obtain ⟨_, _, _, e5, t5, m5⟩ := kM.E3 g5
        cases e5
        obtain ⟨_, _, _, e6, t6, m6⟩ := Au.E3 g6
        cases e6
        have k1 := sv s1
        have k2 := sv s2
        dsimp only at k1 k2
        exact ⟨⟨t1, t2, t3, t4, t5, t6⟩, ⟨m1, m2, m3, m4, m5, m6⟩, by unfold dU; omega, by unfold dU; omega, Me.out j1 zL⟩)
      have nQ := Lib.hid (fun (j : Nat) (h7 : r7 = .ok j) => show bM w8 (iN w C) ⟨2, bF, [], dir, ⟨ls, lf, lb, vP, la, lc⟩, ⟨rs, rf, rb, wL, ra, rc⟩⟩ [.int .i64 2, .string ⟨#[]⟩, .slice none 0 0, .int .i64 dir, .bool ls, .bool lf, .slice L1 a1 x1, .slice L2 a2 x2, .slice L3 a3 x3, .int .i64 lc, .bool rs, .bool rf, .slice R1 b1 y1, .slice R2 b2 y2, .slice R3 b3 y3, .int .i64 rc] by
        obtain ⟨⟨t1, t2, t3, t4, t5, t6⟩, ⟨m1, m2, m3, m4, m5, m6⟩, k1, k2, _⟩ := tB.out j h7
        exact ⟨none, 0, 0, [.bool ls, .bool lf, .slice L1 a1 x1, .slice L2 a2 x2, .slice L3 a3 x3, .int .i64 lc], [.bool rs, .bool rf, .slice R1 b1 y1, .slice R2 b2 y2, .slice R3 b3 y3, .int .i64 rc], rfl, di.nil 2, Nat.zero_le _, ⟨_, _, _, _, _, _, _, _, _, rfl, t1, t2, t3, m1, m2, m3, k1⟩, ⟨_, _, _, _, _, _, _, _, _, rfl, t4, t5, t6, m4, m5, m6, k2⟩, show dU 2 from ⟨by decide, by decide⟩, show dU dir by unfold dU; omega, Nat.zero_le _⟩)
      clear Hv JR hy1 E7 E8 kR kM Au
      go_upto_if 162 with (go_at_call 43; refine (JV.out _ i7 r7 gM.out.cur).mono ?_; rintro e w9 ⟨rfl, NR⟩)
      obtain rfl : w8 = w9 := NR.symm
      go_cut [] (fun wx => ∃ (i : Int) (r : Except (Int × Nat) Nat), jb w C A n c L wx i r ∧ aM wx w3.heap.size 98 #[.int .i64 2, .string ⟨#[]⟩, .slice none 0 0, .int .i64 dir, .bool ls, .bool lf, .slice L1 a1 x1, .slice L2 a2 x2, .slice L3 a3 x3, .int .i64 lc, .bool rs, .bool rf, .slice R1 b1 y1, .slice R2 b2 y2, .slice R3 b3 y3, .int .i64 rc] ∧ R = r.map (fun k => (⟨2, bF, [], dir, ⟨ls, lf, lb, vP, la, lc⟩, ⟨rs, rf, rb, wL, ra, rc⟩⟩, k)) ∧ ∀ j, r = .ok j → bM wx (iN w C) ⟨2, bF, [], dir, ⟨ls, lf, lb, vP, la, lc⟩, ⟨rs, rf, rb, wL, ra, rc⟩⟩ [.int .i64 2, .string ⟨#[]⟩, .slice none 0 0, .int .i64 dir, .bool ls, .bool lf, .slice L1 a1 x1, .slice L2 a2 x2, .slice L3 a3 x3, .int .i64 lc, .bool rs, .bool rf, .slice R1 b1 y1, .slice R2 b2 y2, .slice R3 b3 y3, .int .i64 rc])
      case first =>
        cases hg : Dn r7 with
        | false =>
          have Qp := Lib.hid (show R = r7.map (fun k => (⟨2, bF, [], dir, ⟨ls, lf, lb, vP, la, lc⟩, ⟨rs, rf, rb, wL, ra, rc⟩⟩, k)) by
            rw [cF.out]
            cases r7 with
            | error e => rfl
            | ok m => cases hg)
          go_wp2_with fail
          go_meet
          exact ⟨i7, r7, gM.out, jG.out, Qp.out, nQ.out⟩
        | true =>
          obtain ⟨m, rfl⟩ : ∃ m, r7 = .ok m := by
            cases r7 with
            | error e => cases hg
            | ok m => exact ⟨m, rfl⟩
          have BV := Lib.hid (nQ.out m rfl)
          obtain ⟨⟨t1, t2, t3, t4, t5, t6⟩, ⟨m1, m2, m3, m4, m5, m6⟩, k1, k2, hi0⟩ := tB.out m rfl
          have Fg : Below w8.heap.size w8 w8.drew := ah (Below.refl _ _)
          have Lr := Lib.hid (show Calls Tryz.prog 105 #[.agg #[.int .i64 2, .string ⟨#[]⟩, .slice none 0 0, .int .i64 dir, .bool ls, .bool lf, .slice L1 a1 x1, .slice L2 a2 x2, .slice L3 a3 x3, .int .i64 lc, .bool rs, .bool rf, .slice R1 b1 y1, .slice R2 b2 y2, .slice R3 b3 y3, .int .i64 rc]] w8.drew fun e w' => e = .returned (.int .i64 (gf ⟨2, bF, [], dir, ⟨ls, lf, lb, vP, la, lc⟩, ⟨rs, rf, rb, wL, ra, rc⟩⟩)) ∧ Below w8.drew.heap.size w8.drew w' from
            EA ⟨2, bF, [], dir, ⟨ls, lf, lb, vP, la, lc⟩, ⟨rs, rf, rb, wL, ra, rc⟩⟩ none 0 0 L1 L2 L3 R1 R2 R3 a1 a2 a3 x1 x2 x3 b1 b2 b3 y1 y2 y3 w8.drew ((di.nil (w := w8.drew) (X := iN w C) 2).rd (fun _ _ h => h)) (Nat.zero_le _) (t1.keep (aC.any Fg)).rd (t2.keep (aC.any Fg)).rd (t3.keep (aC.any Fg)).rd m1 m2 m3 (t4.keep (aC.any Fg)).rd (t5.keep (aC.any Fg)).rd (t6.keep (aC.any Fg)).rd m4 m5 m6 k1 k2 (Nat.zero_le _))
          have Ut := Lib.hid (gM.out.below Fg)
          have Ot := Lib.hid (show aM w8.drew w3.heap.size 98 #[.int .i64 2, .string ⟨#[]⟩, .slice none 0 0, .int .i64 dir, .bool ls, .bool lf, .slice L1 a1 x1, .slice L2 a2 x2, .slice L3 a3 x3, .int .i64 lc, .bool rs, .bool rf, .slice R1 b1 y1, .slice R2 b2 y2, .slice R3 b3 y3, .int .i64 rc] from jG.out.below Fg jG.out.lt)
          have T4 := Lib.hid (bM.keep (aC.any Fg) BV.out)
          have Ua := Lib.hid hi0
          have Ka := Lib.hid (show R = (wE (.ok m) (gf ⟨2, bF, [], dir, ⟨ls, lf, lb, vP, la, lc⟩, ⟨rs, rf, rb, wL, ra, rc⟩⟩) (atR r0)).map (fun k => (⟨2, bF, [], dir, ⟨ls, lf, lb, vP, la, lc⟩, ⟨rs, rf, rb, wL, ra, rc⟩⟩, k)) from cF.out)
          clear hg t1 t2 t3 t4 t5 t6 m1 m2 m3 m4 m5 m6 k1 k2 hi0 Fg
          generalize GQ : gf ⟨2, bF, [], dir, ⟨ls, lf, lb, vP, la, lc⟩, ⟨rs, rf, rb, wL, ra, rc⟩⟩ = pe at Lr Ka
          clear GQ
          go_wp2_with fail
          refine aD (S := (fun w' => aM w' w3.heap.size 98 #[.int .i64 2, .string ⟨#[]⟩, .slice none 0 0, .int .i64 dir, .bool ls, .bool lf, .slice L1 a1 x1, .slice L2 a2 x2, .slice L3 a3 x3, .int .i64 lc, .bool rs, .bool rf, .slice R1 b1 y1, .slice R2 b2 y2, .slice R3 b3 y3, .int .i64 rc])) [3] (by kernel_rfl) Ot.out (fun bf => ?_)
          refine aa (i := 0) (oi := ⟨some 163, _, _, _, _, _⟩) (v := ?_) rfl (by kernel_rfl) (by kernel_rfl) (by kernel_rfl) (fun _ _ _ h => h) (Or.inl ⟨by rfl, ?_⟩) ?_
          rotate_left 1
          · intro wq _
            go_simp
            try with_reducible rfl
          try simp only [Act.put, List.setIfInBounds_toArray, List.set_cons_zero, List.set_cons_succ]
          refine aa (i := 1) (oi := ⟨some 164, _, _, _, _, _⟩) (v := ?_) rfl (by kernel_rfl) (by kernel_rfl) (by kernel_rfl) (fun _ _ _ h => h) (Or.inl ⟨by rfl, ?_⟩) ?_
          rotate_left 1
          · intro wq _
            go_simp
            try with_reducible rfl
          try simp only [Act.put, List.setIfInBounds_toArray, List.set_cons_zero, List.set_cons_succ]
          refine aa (i := 2) (oi := ⟨some 165, _, _, _, _, _⟩) (v := ?_) rfl (by kernel_rfl) (by kernel_rfl) (by kernel_rfl) (fun _ _ _ h => h) (Or.inl ⟨by rfl, ?_⟩) ?_
          rotate_left 1
          · intro wq _
            go_simp
            try with_reducible rfl
          try simp only [Act.put, List.setIfInBounds_toArray, List.set_cons_zero, List.set_cons_succ]
          refine aa (i := 5) (oi := ⟨some 168, _, _, _, _, _⟩) (v := ?_) rfl (by kernel_rfl) (by kernel_rfl) (by kernel_rfl) (fun _ _ _ h => h) (Or.inl ⟨by rfl, ?_⟩) ?_
          rotate_left 1
          · intro wq _
            go_simp
            try with_reducible rfl
          try simp only [Act.put, List.setIfInBounds_toArray, List.set_cons_zero, List.set_cons_succ]
          refine ai (i := 3) (oi := ⟨some 166, _, _, _, _, _⟩) (v := .agg #[.int .i64 2, .string ⟨#[]⟩, .slice none 0 0, .int .i64 dir, .bool ls, .bool lf, .slice L1 a1 x1, .slice L2 a2 x2, .slice L3 a3 x3, .int .i64 lc, .bool rs, .bool rf, .slice R1 b1 y1, .slice R2 b2 y2, .slice R3 b3 y3, .int .i64 rc]) rfl (by kernel_rfl) (by kernel_rfl) (by kernel_rfl) (by kernel_rfl) (by kernel_rfl) (fun _ _ _ h => h) (Or.inl ⟨by rfl, ?_⟩) (by assumption) ?_
          · intro wq bS
            exact vY rfl dD cK rfl bS
          try simp only [Act.put, List.setIfInBounds_toArray, List.set_cons_zero, List.set_cons_succ]
          refine az (i := 4) (o := ⟨some 167, _, _, _, _, _⟩) (by kernel_rfl) rfl (by kernel_rfl) (fun K hK => ?_)
          go_simp
          go_at_call 105
          refine Lr.out.mono ?_
          rintro e w9 ⟨rfl, bI⟩
          have Rh := Lib.hid (Ut.out.below bI)
          have TI := Lib.hid (show aM w9 w3.heap.size 98 #[.int .i64 2, .string ⟨#[]⟩, .slice none 0 0, .int .i64 dir, .bool ls, .bool lf, .slice L1 a1 x1, .slice L2 a2 x2, .slice L3 a3 x3, .int .i64 lc, .bool rs, .bool rf, .slice R1 b1 y1, .slice R2 b2 y2, .slice R3 b3 y3, .int .i64 rc] from Ot.out.below bI Ot.out.lt)
          have S3 := Lib.hid (bM.keep (aC.any bI) T4.out)
          clear bI
          try dsimp only
          refine hK.out _ _ ?_
          clear hK K
          try simp only [Act.put, List.setIfInBounds_toArray, List.set_cons_zero, List.set_cons_succ]
          refine az (i := 6) (o := ⟨some 169, _, _, _, _, _⟩) (by kernel_rfl) rfl (by kernel_rfl) (fun K hK => ?_)
          go_simp
          go_at_call 44
          refine (JP w.heap.size _ C A n c L i7 m Rh.out.cur pe i0 (atR r0) Ua.out).mono ?_
          rintro e sH ⟨rfl, eM, dF⟩
          have jn := Lib.hid (Rh.out.step eM dF)
          have cE := Lib.hid (cV TI.out dF wM)
          have Pm := Lib.hid (bM.keep (dF.keeps (X' := iN w C) (fun b h => h.2) (fun _ h _ => h)) S3.out)
          clear eM dF
          try dsimp only
          refine hK.out _ _ ?_
          clear hK K
          try simp only [Act.put, List.setIfInBounds_toArray, List.set_cons_zero, List.set_cons_succ]
          refine aN (by kernel_rfl) ?_ _
          go_simp
          go_wp2_with fail
          go_meet
          refine ⟨_, _, jn.out, cE.out, Ka.out, fun j hj => Pm.out⟩
      case rest =>
        obtain ⟨i9, r9, Se, Li, KN, ND⟩ := hcut
        have jn := Lib.hid Se
        have Ke := Lib.hid Li
        have Qp := Lib.hid KN
        have JA := Lib.hid ND
        clear Se Li KN ND
        obtain ⟨hone, e1, e2, hlc, e4⟩ := od (vs := [.int .i64 2, .string ⟨#[]⟩, .slice none 0 0, .int .i64 dir, .bool ls, .bool lf, .slice L1 a1 x1, .slice L2 a2 x2, .slice L3 a3 x3, .int .i64 lc, .bool rs, .bool rf, .slice R1 b1 y1, .slice R2 b2 y2, .slice R3 b3 y3, .int .i64 rc]) jn.out e9
        have mD := Lib.hid e1
        have sF := Lib.hid e2
        have qx := Lib.hid e4
        have fU := Lib.hid hone
        have wU := Lib.hid hlc
        have uT := Lib.hid (jb.res jn.out)
        clear e1 e2 e4 hlc hone
        go_wp2_with (first | (refine wpList_load_row (cs := #[.int .i64 2, .string ⟨#[]⟩, .slice none 0 0, .int .i64 dir, .bool ls, .bool lf, .slice L1 a1 x1, .slice L2 a2 x2, .slice L3 a3 x3, .int .i64 lc, .bool rs, .bool rf, .slice R1 b1 y1, .slice R2 b2 y2, .slice R3 b3 y3, .int .i64 rc]) rfl rfl dD cK rfl Ke.out ?_) | (refine wpList_store_row (c := #[.int .i64 0, .string ⟨#[]⟩, .slice none 0 0, .int .i64 0, .bool false, .bool false, .slice none 0 0, .slice none 0 0, .slice none 0 0, .int .i64 0, .bool false, .bool false, .slice none 0 0, .slice none 0 0, .slice none 0 0, .int .i64 0]) (vs := #[.int .i64 2, .string ⟨#[]⟩, .slice none 0 0, .int .i64 dir, .bool ls, .bool lf, .slice L1 a1 x1, .slice L2 a2 x2, .slice L3 a3 x3, .int .i64 lc, .bool rs, .bool rf, .slice R1 b1 y1, .slice R2 b2 y2, .slice R3 b3 y3, .int .i64 rc]) rfl rfl cK rfl fU.out rfl rfl uT.out ?_))
        (try simp only [Act.put])
        refine bodyPost_ret (v := .agg #[.int .i64 2, .string ⟨#[]⟩, .slice none 0 0, .int .i64 dir, .bool ls, .bool lf, .slice L1 a1 x1, .slice L2 a2 x2, .slice L3 a3 x3, .int .i64 lc, .bool rs, .bool rf, .slice R1 b1 y1, .slice R2 b2 y2, .slice R3 b3 y3, .int .i64 rc]) (dV Tryz.results62 rfl dD cK wU.out) rfl ?_
        exact ⟨_, ⟨2, bF, [], dir, ⟨ls, lf, lb, vP, la, lc⟩, ⟨rs, rf, rb, wL, ra, rc⟩⟩, rfl, rfl, e9, sF.out, _, _, mD.out, Qp.out, fun j hj => bM.keep qx.out (JA.out j hj)⟩
end Go.Proofs.YthnhbcohfoodlaaGreatDoor
