/- The walk of scriptref20.Find: it tells findP. -/
import Derived.Test.YtfmebbnccjaadaaFindWalk
namespace Go.Proofs.Ytfmebbnccjaadaa
open Go.RowKit

set_option maxRecDepth 100000 in
set_option maxHeartbeats 12800000 in
theorem ref20_find (X : Nat → Prop) (l : List RuleD) (Ar : Option Addr) (nr cr : Nat) (t p : List Int) (At Ap : Option Addr) (nt ct np cp : Nat) (w : World) (hnr : nr ≤ maxLen) (hl : ListX (RuleC w X) w X 7 Ar nr l) (hnt : nt ≤ maxLen) (ht : RdR w w.heap.size At nt t) (hnp : np ≤ maxLen) (hp : RdR w w.heap.size Ap np p) :
    Calls Try.prog 18 #[.slice Ar nr cr, .slice At nt ct, .slice Ap np cp] w fun e w' => FdPost w.heap.size w' (findP l t p) e ∧ Below w.heap.size w w' := by
  obtain ⟨i1, hi1, z0, z1, z2⟩ := info_parts infoHit
  have hb0 := (Below.refl w.heap.size w).alloc (Nat.le_refl _) (.cells #[.int .i64 0, .int .i64 0] 28)
  have HX0 := Lib.hid (Blk.new w 28 #[.int .i64 0, .int .i64 0])
  have HB0 := Lib.hid hb0
  have HL := Lib.hid (fun (W : World) (hb : Below w.heap.size w W) => show ListX (RuleC W X) W X 7 Ar nr l from hl.keep (Keeps.any hb) (fun _ _ => RuleC.keep (Keeps.any hb)))
  have HTT := Lib.hid (fun (W : World) (hb : Below w.heap.size w W) => show RdR W W.heap.size At nt t from (Rd.below ht hb).more hb.size)
  have HPT := Lib.hid (fun (W : World) (hb : Below w.heap.size w W) => show RdR W W.heap.size Ap np p from (Rd.below hp hb).more hb.size)
  have HP := Lib.hid (ref15_links X l Ar nr cr t At nt ct _ hnr (HL.out _ hb0) hnt (HTT.out _ hb0))
  have HPL := Lib.hid (show p.length = np from hp.len)
  have hok := @align_ok l t
  clear hb0 hl ht hp
  go_enter Try.func18, Try.ntmps18
  go_wp2_with fail
  refine HP.out.mono ?_
  rintro e w1 ⟨⟨A1, n1, c1, rfl, hr, hn1, hnc1⟩, hb1⟩
  obtain ⟨L, f1, f2, hP⟩ : ∃ L f1 f2, alignP l t = (L, (f1, f2)) := ⟨_, _, _, rfl⟩
  have HFI := Lib.hid (show findP l t p = if f1 ≠ 0 then ([], (f1, f2)) else if textP p ≠ 0 then ([], (textP p, 1)) else if p.length = 0 then ([], (6, 1)) else (allH (runRefP l t).1.text p L, (0, 0)) by unfold findP; rw [hP])
  rw [hP] at hr hok ⊢
  dsimp only at hr hok ⊢
  have HOK := Lib.hid hok
  have hba := (Below.refl w1.heap.size w1).alloc (Nat.le_refl _) (.cells #[.int .i64 f1, .int .i64 f2] 28)
  have hbb := hb1.trans (hba.mono hb1.size)
  have HF2 := Lib.hid (Blk.new w1 28 #[.int .i64 f1, .int .i64 f2])
  have HX2 := Lib.hid (Blk.below HX0.out hbb HX0.out.lt)
  have HB2 := Lib.hid (HB0.out.trans (hbb.mono HB0.out.size))
  have HR2 := Lib.hid (hr.keep (Keeps.any hba))
  have hw1 : w.heap.size < w1.heap.size := Nat.lt_of_lt_of_le HX0.out.lt hb1.size
  clear hb1 hr hP hba hbb HX0 HB0 HP hok
  go_upto_region 2 with fail
  generalize w1.alloc (.cells #[.int .i64 f1, .int .i64 f2] 28) = W2 at *
  have q0 := HF2.out.cell 0
  have q1 := HF2.out.cell 1
  have x0 := HX2.out.cell 0
  have x1 := HX2.out.cell 1
  have p0 := HX2.out.frozen 0
  have p1 := HX2.out.frozen 1
  by_cases hz : f1 = 0
  · subst hz
    have HA := Lib.hid (HFI.out.trans (if_neg (fun h => h rfl)))
    obtain ⟨hch, hLn, htn⟩ := HOK.out rfl
    have HCH := Lib.hid hch
    have HLN := Lib.hid (show L.length = n1 by have := HR2.out.1; rw [linkCells_length] at this; omega)
    have hn14 : n1 ≤ 40000 := by have := HLN.out; omega
    have HTX := Lib.hid (ref7_text Ap np cp p W2 hnp (HPT.out W2 HB2.out))
    clear hch hLn HFI HOK q1 x0 x1 p0 p1
    go_wp2_with fail
    refine HTX.out.mono ?_
    rintro e w3 ⟨rfl, hb3⟩
    have HX3 := Lib.hid (Blk.below HX2.out hb3 HX2.out.lt)
    have HB3 := Lib.hid (HB2.out.trans (hb3.mono HB2.out.size))
    have HR3 := Lib.hid (HR2.out.keep (Keeps.any hb3))
    clear hb3 HX2 HB2 HR2 HTX HF2 q0
    have x0 := HX3.out.cell 0
    have x1 := HX3.out.cell 1
    have p0 := HX3.out.frozen 0
    have p1 := HX3.out.frozen 1
    obtain ⟨tp, htp⟩ : ∃ tp, textP p = tp := ⟨_, rfl⟩
    have HTP := Lib.hid htp
    rw [htp] at HA ⊢
    by_cases hz : tp = 0
    · subst hz
      have HA2 := Lib.hid (HA.out.trans (if_neg (fun h => h rfl)))
      have hp4 := (textP_len htp).1
      clear htp HA
      by_cases hz : np = 0
      · have HG := Lib.hid (HA2.out.trans (if_pos (by rw [HPL.out]; exact hz)))
        subst hz
        have hbf := (HB3.out.setCell (p := ⟨w.heap.size, 0, none⟩) (by simp) (.int .i64 6)).setCell (p := ⟨w.heap.size, 1, none⟩) (by simp) (.int .i64 1)
        have HBF := Lib.hid hbf
        clear hbf HA2
        go_wp2_with fail
        rw [HG.out]
        exact bodyPost_ret (v := .tuple #[.slice none 0 0, .agg #[.int .i64 6, .int .i64 1]]) (by simp [results, Try.results18, go_sem, x0, x1]) rfl ⟨FdPost.nil _ _ _ _, HBF.out⟩
      · have HG := Lib.hid (HA2.out.trans (if_neg (by rw [HPL.out]; exact hz)))
        have hp0 : ((np : Int) == 0) = false := by rw [beq_eq_false_iff_ne]; omega
        have hnp4 : np ≤ 4000 := by have := HPL.out; omega
        have hnp1 : 1 ≤ np := by omega
        have HRN := Lib.hid (ref8_run2 X l Ar nr cr t At nt ct w3 hnr (HL.out w3 HB3.out) hnt (HTT.out w3 HB3.out))
        have hw3 := HX3.out.lt
        clear hz HA2 hp4 x0 x1 p0 p1
        go_wp2_with fail
        refine HRN.out.mono ?_
        rintro e w4 ⟨⟨A3, n3, c3, rfl, hr3, hnc3⟩, hb4⟩
        obtain ⟨⟨txt, s3, p3⟩, g1, g2, hC⟩ : ∃ o g1 g2, runRefP l t = (o, (g1, g2)) := ⟨_, _, _, rfl⟩
        rw [hC] at HG HCH htn hr3 ⊢
        dsimp only at HG HCH htn hr3 ⊢
        have hba := ((Below.refl w4.heap.size w4).alloc (Nat.le_refl _) (.cells #[.slice A3 n3 c3, .int .i64 s3, .int .i64 p3] 25)).alloc (by simp) (.cells #[.int .i64 g1, .int .i64 g2] 28)
        have hbb := hb4.trans (hba.mono hb4.size)
        have HX4 := Lib.hid (Blk.below HX3.out hbb HX3.out.lt)
        have HB4 := Lib.hid (HB3.out.trans (hbb.mono HB3.out.size))
        have HR4 := Lib.hid (HR3.out.keep (Keeps.any hbb))
        have HO4 := Lib.hid (show Blk ((w4.alloc (.cells #[.slice A3 n3 c3, .int .i64 s3, .int .i64 p3] 25)).alloc (.cells #[.int .i64 g1, .int .i64 g2] 28)) w4.heap.size 25 #[.slice A3 n3 c3, .int .i64 s3, .int .i64 p3] from (Blk.new w4 _ _).alloc _)
        have HT4 := Lib.hid (hr3.keep (Keeps.any hba))
        have HTN := Lib.hid (show txt.length = n3 by have := hr3.1; rw [runeCells_length] at this; omega)
        have hn34 : n3 ≤ 4000 := by have := HTN.out; omega
        have HPX := Lib.hid (HPT.out _ HB4.out)
        have hw4 : w.heap.size < w4.heap.size := Nat.lt_of_lt_of_le hw3 hb4.size
        clear hb4 hr3 hba hbb hC htn HX3 HB3 HR3 HRN
        go_upto_region 10 with fail
        generalize (w4.alloc (.cells #[.slice A3 n3 c3, .int .i64 s3, .int .i64 p3] 25)).alloc (.cells #[.int .i64 g1, .int .i64 g2] 28) = W3 at *
        have hw3' := HO4.out.lt
        have hwW : w.heap.size < W3.heap.size := by omega
        go_wp2_with fail
        go_loopw [13, 46] (FdRel L txt p n1 W3) (fun _ i _ => n1 - (intOf i).toNat)
        case atStart => exact ⟨0, [], 0, Nat.zero_le _, rfl, rfl, Nat.le_refl _, rfl, World.ownsRow_nil _ _ _ _, Below.refl _ _⟩
        case round =>
          obtain ⟨k, hs, n, hk, rfl, hhl, hnk, hall, ho, hb⟩ := hrel
          have HALL := Lib.hid hall
          have HHL := Lib.hid hhl
          have HO := Lib.hid ho
          have HB := Lib.hid hb
          have hz := hb.size
          obtain ⟨Ao, co, rfl, _⟩ := own_form ho
          clear hall hhl ho
          by_cases hlt : k < n1
          · obtain ⟨x, hx⟩ : ∃ x, L[k]? = some x := ⟨_, List.getElem?_eq_getElem (by rw [HLN.out]; exact hlt)⟩
            obtain ⟨b1, o1, rfl, _, hbb1, hcc⟩ := HR4.out.2 (by omega)
            have HCX := Lib.hid (fun (W : World) (hb : Below W3.heap.size W3 W) (q : Nat) (y : LinkD) (hy : L[q]? = some y) => show W.cell? ⟨b1, o1 + q * 5, none⟩ = some (.int .i64 y.src) ∧ W.cell? ⟨b1, o1 + q * 5 + 1, none⟩ = some (.int .i64 y.upto) ∧ W.cell? ⟨b1, o1 + q * 5 + 2, none⟩ = some (.int .i64 y.beg) ∧ W.cell? ⟨b1, o1 + q * 5 + 3, none⟩ = some (.int .i64 y.fin) ∧ W.cell? ⟨b1, o1 + q * 5 + 4, none⟩ = some (.int .i64 y.rule) from by
              obtain ⟨g0, g1, g2, g3, g4⟩ := link_get hy
              refine ⟨(hb.cell (p := ⟨b1, o1 + q * 5, none⟩) hbb1).trans (hcc _ _ g0), (hb.cell (p := ⟨b1, o1 + q * 5 + 1, none⟩) hbb1).trans ?_, (hb.cell (p := ⟨b1, o1 + q * 5 + 2, none⟩) hbb1).trans ?_, (hb.cell (p := ⟨b1, o1 + q * 5 + 3, none⟩) hbb1).trans ?_, (hb.cell (p := ⟨b1, o1 + q * 5 + 4, none⟩) hbb1).trans ?_⟩
              all_goals rw [Nat.add_assoc]
              · exact hcc _ _ g1
              · exact hcc _ _ g2
              · exact hcc _ _ g3
              · exact hcc _ _ g4)
            have HXX := Lib.hid hx
            have HST := Lib.hid (show allH txt p L = hs ++ (rowH txt p x (L.drop k) ++ allH txt p (L.drop (k + 1))) by rw [HALL.out, drop_at hx, allH_cons])
            obtain ⟨wo, rfl⟩ : ∃ wo : World, wo = wr := ⟨_, rfl⟩
            clear hx hcc hb
            have hx0 := HCX.out wo HB.out k x HXX.out
            obtain ⟨xs, xu, xb, xf, xr⟩ := hx0
            obtain ⟨hi0, _, _, _⟩ := link_in HCH.out HXX.out HXX.out (Nat.le_refl _)
            obtain ⟨bx, hbx⟩ : ∃ n : Nat, x.beg = (n : Int) := ⟨x.beg.toNat, by omega⟩
            have HBX := Lib.hid hbx
            rw [hbx] at xb
            have hba := (Below.refl wo.heap.size wo).alloc (Nat.le_refl _) (.cells #[.int .i64 x.src, .int .i64 x.upto, .int .i64 bx, .int .i64 x.fin, .int .i64 x.rule] 41)
            have HLX := Lib.hid (Blk.new wo 41 #[.int .i64 x.src, .int .i64 x.upto, .int .i64 bx, .int .i64 x.fin, .int .i64 x.rule])
            have HB5 := Lib.hid (HB.out.trans (hba.mono hz))
            have HO5 := Lib.hid (World.ownsRow.alloc HO.out (.cells #[.int .i64 x.src, .int .i64 x.upto, .int .i64 bx, .int .i64 x.fin, .int .i64 x.rule] 41))
            have hk0 : (0 : Int) ≤ (k : Int) := by omega
            have hk1 : (k : Int) < (n1 : Int) := by omega
            have hk2 : (k : Int) ≤ (n1 : Int) := by omega
            have hk3 : (n1 : Int) ≤ (c1 : Int) := by omega
            have hnek : ¬ c1 = k := by omega
            have hwo5 : W3.heap.size ≤ wo.heap.size := hz
            clear hi0 hbx hba HO HB
            go_upto_region 14 with fail
            generalize wo.alloc (.cells #[.int .i64 x.src, .int .i64 x.upto, .int .i64 bx, .int .i64 x.fin, .int .i64 x.rule] 41) = W5 at *
            have hw5 := HLX.out.lt
            clear xs xu xb xf xr
            go_wp2_with fail
            go_loopw [13, 55] (FdRel3 L txt p n1 k wo.heap.size x #[.int .i64 x.src, .int .i64 x.upto, .int .i64 bx, .int .i64 x.fin, .int .i64 x.rule] W3) (fun _ j _ => n1 - k - (intOf j).toNat)
            case atStart => exact ⟨k, hs, n, Nat.le_refl _, hk, by rw [Nat.sub_self]; rfl, HHL.out, by omega, HST.out, HO5.out, HB5.out, HLX.out⟩
            case round =>
              obtain ⟨q, hs2, n2, hkq, hqm, rfl, hhl2, hn2, hall2, ho2, hb2, hlx⟩ := hrel
              have HALL2 := Lib.hid hall2
              have HHL2 := Lib.hid hhl2
              have HO2 := Lib.hid ho2
              have HB2' := Lib.hid hb2
              have HLX2 := Lib.hid hlx
              have hz2 := hb2.size
              have hlx2 := hlx.lt
              obtain ⟨Ao2, co2, rfl, _⟩ := own_form ho2
              obtain ⟨j, rfl⟩ : ∃ j, q = k + j := ⟨q - k, by omega⟩
              rw [Nat.add_sub_cancel_left]
              clear hall2 hhl2 ho2 hlx
              by_cases hqlt : k + j < n1
              · obtain ⟨y, hy⟩ : ∃ y, L[k + j]? = some y := ⟨_, List.getElem?_eq_getElem (by rw [HLN.out]; exact hqlt)⟩
                obtain ⟨hi0, hi1, hi2, bb, hi3, hi4⟩ := link_in HCH.out HXX.out hy hkq
                obtain ⟨fy, hfy⟩ : ∃ n : Nat, y.fin = (n : Int) := ⟨y.fin.toNat, by have := HBX.out; omega⟩
                obtain ⟨d0, d1, d2, d3, d4⟩ := HCX.out wr HB2'.out (k + j) y hy
                have hbf : bx ≤ fy := by have := HBX.out; omega
                have hfn : fy ≤ n3 := by have := HTN.out; omega
                have HROW := Lib.hid (show rowH txt p x (L.drop (k + j)) = hitOf txt p x y ++ rowH txt p x (L.drop (k + j + 1)) by rw [drop_at hy]; rfl)
                have HFY := Lib.hid hfy
                rw [hfy] at d3
                have ea : o1 + (k + j) * 5 = o1 + k * 5 + j * 5 := by omega
                have f0 : wr.cell? ⟨b1, o1 + k * 5 + j * 5, none⟩ = some (.int .i64 y.src) := by rw [← ea]; exact d0
                have f1 : wr.cell? ⟨b1, o1 + k * 5 + j * 5 + 1, none⟩ = some (.int .i64 y.upto) := by rw [← ea]; exact d1
                have f2 : wr.cell? ⟨b1, o1 + k * 5 + j * 5 + 2, none⟩ = some (.int .i64 y.beg) := by rw [← ea]; exact d2
                have f3 : wr.cell? ⟨b1, o1 + k * 5 + j * 5 + 3, none⟩ = some (.int .i64 fy) := by rw [← ea]; exact d3
                have f4 : wr.cell? ⟨b1, o1 + k * 5 + j * 5 + 4, none⟩ = some (.int .i64 y.rule) := by rw [← ea]; exact d4
                have hj0 : (0 : Int) ≤ (j : Int) := by omega
                have hj1 : (j : Int) < ((n1 - k : Nat) : Int) := by omega
                have hj2 : j < n1 - k := by omega
                have hba := (Below.refl wr.heap.size wr).alloc (Nat.le_refl _) (.cells #[.int .i64 y.src, .int .i64 y.upto, .int .i64 y.beg, .int .i64 fy, .int .i64 y.rule] 41)
                have HLY := Lib.hid (Blk.new wr 41 #[.int .i64 y.src, .int .i64 y.upto, .int .i64 y.beg, .int .i64 fy, .int .i64 y.rule])
                have HB6 := Lib.hid (HB2'.out.trans (hba.mono hz2))
                have HX6 := Lib.hid (Blk.below HLX2.out hba hlx2)
                have HO6 := Lib.hid (World.ownsRow.alloc HO2.out (.cells #[.int .i64 y.src, .int .i64 y.upto, .int .i64 y.beg, .int .i64 fy, .int .i64 y.rule] 41))
                have v1 : IntKind.i64.wrap ((fy : Int) - (bx : Int)) = (fy : Int) - (bx : Int) := IntWalk.i64_in _ (by omega)
                clear hi0 hi1 hi2 hi3 hi4 hfy hba d0 d1 d2 d3 d4 ea hb2 HB2' HO2 v1
                go_upto_region 17 with fail
                generalize wr.alloc (.cells #[.int .i64 y.src, .int .i64 y.upto, .int .i64 y.beg, .int .i64 fy, .int .i64 y.rule] 41) = W6 at *
                clear f0 f1 f2 f3 f4
                have hw6 := HLY.out.lt
                have xb := HX6.out.cell 2
                have xs0 := HX6.out.cell 0
                have yf := HLY.out.cell 3
                have yu0 := HLY.out.cell 1
                have HO9 := Lib.hid (Blk.below HO4.out HB6.out HO4.out.lt)
                have t0 : W6.cell? ⟨w4.heap.size, 0, none⟩ = some (.slice A3 n3 c3) := HO9.out.cell 0
                have HPQ := Lib.hid (Rd.more (Rd.below HPX.out HB6.out) HB6.out.size)
                have hz6 := HB6.out.size
                by_cases hle : bx + np ≤ fy ∧ fy ≤ bx + np
                · obtain ⟨hle1, hle2⟩ := hle
                  have hd : (((fy : Int) - (bx : Int)) == (np : Int)) = true := by rw [beq_iff_eq]; omega
                  obtain ⟨b3, o3, rfl, _, hb3, hc3⟩ := HT4.out.2 (by omega)
                  have hne3 : ¬ c3 = bx := by omega
                  have hbx0 : (0 : Int) ≤ (bx : Int) := by omega
                  have hbx1 : (bx : Int) ≤ (fy : Int) := by omega
                  have hbx2 : (fy : Int) ≤ (c3 : Int) := by omega
                  obtain ⟨E, hE⟩ : ∃ E : Bool, (segI txt x.beg y.fin == p) = E := ⟨_, rfl⟩
                  have HEE := Lib.hid hE
                  have HEQ := Lib.hid (show Calls Try.prog 14 #[.slice (some ⟨b3, o3 + bx, none⟩) (fy - bx) (c3 - bx), .slice Ap np cp] W6 fun e w' => e = .returned (.bool E) ∧ ∃ k, w' = W6.drewN k by
                    have hrd := (rdx_take (k := fy - bx) (rdx_drop (k := bx) (HT4.out.keep (Keeps.any HB6.out)) (by omega)) (by omega)).of
                    rw [runeCells_drop, runeCells_take] at hrd
                    have h := ref_same (some ⟨b3, o3 + bx, none⟩) Ap (fy - bx) np (c3 - bx) cp _ p W6 (by omega) hrd HPQ.out
                    rwa [← seg_nat, ← HBX.out, ← HFY.out, HEE.out] at h)
                  clear hE hc3
                  go_wp2_with fail
                  refine HEQ.out.mono ?_
                  rintro e w7 ⟨rfl, qq, rfl⟩
                  have HBQ2 := Lib.hid (below_drewN HB6.out qq)
                  have HX7 := Lib.hid (HX6.out.drewN qq)
                  have HOQ2 := Lib.hid (show (W6.drewN qq).ownsRow W3.heap.size 46 2 (.slice Ao2 n2 co2) n2 (shotCells hs2) from HO6.out)
                  have xs0' : (W6.drewN qq).cell? ⟨wo.heap.size, 0, none⟩ = some (.int .i64 x.src) := xs0
                  have yu0' : (W6.drewN qq).cell? ⟨wr.heap.size, 1, none⟩ = some (.int .i64 y.upto) := yu0
                  have hzw : (W6.drewN qq).heap.size = W6.heap.size := rfl
                  clear t0 xb yf xs0 yu0 HEQ hzw
                  generalize W6.drewN qq = wz at *
                  cases E
                  · have HNEXT := Lib.hid (show allH txt p L = hs2 ++ (rowH txt p x (L.drop (k + j + 1)) ++ allH txt p (L.drop (k + 1))) by rw [HALL2.out, HROW.out, hit_no HEE.out, List.nil_append])
                    go_wp2_with fail
                    exact ⟨⟨k + j + 1, hs2, n2, by omega, by omega, by rw [show k + j + 1 - k = j + 1 by omega]; go_num, HHL2.out, by omega, HNEXT.out, HOQ2.out, HBQ2.out, HX7.out⟩, by simp [intOf]; omega⟩
                  · have HNEXT := Lib.hid (show allH txt p L = (hs2 ++ [(x.src, y.upto)]) ++ (rowH txt p x (L.drop (k + j + 1)) ++ allH txt p (L.drop (k + 1))) by rw [HALL2.out, HROW.out, hit_yes HEE.out, List.append_assoc, List.append_assoc])
                    have hzz := HBQ2.out.size
                    have HNA := Lib.hid (Rd.new wz 46 2 1 [.int .i64 x.src, .int .i64 y.upto] rfl)
                    have H1A := Lib.hid (show ∀ u ∈ [Value.int .i64 x.src, .int .i64 y.upto], u.oneCell' = true by intro u hu; simp at hu; rcases hu with rfl | rfl <;> rfl)
                    have HOA := Lib.hid (World.ownsRow.alloc HOQ2.out (.cells #[.int .i64 x.src, .int .i64 y.upto] 46))
                    have HBA := Lib.hid (HBQ2.out.alloc hzz (.cells #[.int .i64 x.src, .int .i64 y.upto] 46))
                    have HXA := Lib.hid (HX7.out.alloc (.cells #[.int .i64 x.src, .int .i64 y.upto] 46))
                    go_wp2_with (at_builtin; refine wpList_append_rd _ rfl (.tmp 78) (.tmp 84) 42 rfl W3.heap.size 46 i1 _ 2 16 Try.underlying42 hi1 z0 z1 z2 rfl (by decide) _ n2 _ rfl HOA.out _ (some ⟨wz.heap.size, 0, none⟩) 1 1 [.int .i64 x.src, .int .i64 y.upto] rfl HNA.out H1A.out (by simp only [maxLen]; omega) (by omega) HBA.out.size ?_)
                    intro v9 w9 happ
                    have HB9 := Lib.hid (HBA.out.trans (happ.below HBA.out.size HOA.out))
                    have HX9 := Lib.hid (blk_app HXA.out HOA.out (by decide) happ)
                    have HO9' := Lib.hid (show w9.ownsRow W3.heap.size 46 2 v9 (n2 + 1) (shotCells (hs2 ++ [(x.src, y.upto)])) by rw [shotCells_append]; exact happ.own)
                    clear happ
                    go_wp2_with fail
                    exact ⟨⟨k + j + 1, hs2 ++ [(x.src, y.upto)], n2 + 1, by omega, by omega, by rw [show k + j + 1 - k = j + 1 by omega]; go_num, by rw [List.length_append, HHL2.out]; rfl, by omega, HNEXT.out, HO9'.out, HB9.out, HX9.out⟩, by simp [intOf]; omega⟩
                · have hd : (((fy : Int) - (bx : Int)) == (np : Int)) = false := by rw [beq_eq_false_iff_ne]; omega
                  have HNEXT := Lib.hid (show allH txt p L = hs2 ++ (rowH txt p x (L.drop (k + j + 1)) ++ allH txt p (L.drop (k + 1))) by
                    rw [HALL2.out, HROW.out, hit_no, List.nil_append]
                    rw [HBX.out, HFY.out, beq_eq_false_iff_ne]
                    intro h
                    have h2 := seg_len (txt := txt) (b := bx) (e := fy) (by omega) (by omega) (by have := HTN.out; omega)
                    rw [h, HPL.out] at h2
                    omega)
                  clear hle
                  go_wp2_with fail
                  exact ⟨⟨k + j + 1, hs2, n2, by omega, by omega, by rw [show k + j + 1 - k = j + 1 by omega]; go_num, HHL2.out, by omega, HNEXT.out, HO6.out, HB6.out, HX6.out⟩, by simp [intOf]; omega⟩
              · have hj : k + j = n1 := by omega
                have hj2 : j = n1 - k := by omega
                have HNEXT := Lib.hid (show allH txt p L = hs2 ++ allH txt p (L.drop (k + 1)) by rw [HALL2.out, List.drop_of_length_le (by rw [HLN.out]; omega)]; rfl)
                have hj3 : n1 - k ≤ j := by omega
                clear hj hj2
                go_wp2_with fail
                exact ⟨⟨k + 1, hs2, n2, by omega, by go_num, HHL2.out, by omega, HNEXT.out, HO2.out, HB2'.out⟩, by simp [intOf]; omega⟩
          · obtain rfl : k = n1 := by omega
            have HFIN := Lib.hid (show allH txt p L = hs by rw [HALL.out, List.drop_of_length_le (by rw [HLN.out]; exact Nat.le_refl _)]; exact List.append_nil _)
            have HX9 := Lib.hid (Blk.below HX4.out HB.out HX4.out.lt)
            have x0 := HX9.out.cell 0
            have x1 := HX9.out.cell 1
            have p0 := HX9.out.frozen 0
            have p1 := HX9.out.frozen 1
            have HB9 := Lib.hid (HB4.out.trans (HB.out.mono HB4.out.size))
            have hbf := (HB9.out.setCell (p := ⟨w.heap.size, 0, none⟩) (by simp) (.int .i64 0)).setCell (p := ⟨w.heap.size, 1, none⟩) (by simp) (.int .i64 0)
            have h5 := own_set_low (own_set_low HO.out (p := ⟨w.heap.size, 0, none⟩) (by simp only; omega) (.int .i64 0)) (p := ⟨w.heap.size, 1, none⟩) (by simp only; omega) (.int .i64 0)
            have HR := Lib.hid (show RdX ((wr.setCell ⟨w.heap.size, 0, none⟩ (.int .i64 0)).setCell ⟨w.heap.size, 1, none⟩ (.int .i64 0)) (fun b => w.heap.size ≤ b) 2 Ao n (shotCells (allH txt p L)) by
              rw [HFIN.out]
              exact RdX.of_own h5 (fun b hb => Nat.le_trans (Nat.le_of_lt hwW) (own_lt h5 hb).1))
            have HBF := Lib.hid hbf
            clear hbf h5 hb
            go_wp2_with fail
            rw [HG.out]
            exact bodyPost_ret (v := .tuple #[.slice Ao n co, .agg #[.int .i64 0, .int .i64 0]]) (by simp [results, Try.results18, go_sem, x0, x1]) rfl ⟨⟨Ao, n, co, rfl, HR.out, by omega⟩, HBF.out⟩
    · have HG := Lib.hid (HA.out.trans (if_pos hz))
      have hbf := (HB3.out.setCell (p := ⟨w.heap.size, 0, none⟩) (by simp) (.int .i64 tp)).setCell (p := ⟨w.heap.size, 1, none⟩) (by simp) (.int .i64 1)
      have HBF := Lib.hid hbf
      clear hbf HA htp
      go_wp2_with fail
      rw [HG.out]
      exact bodyPost_ret (v := .tuple #[.slice none 0 0, .agg #[.int .i64 tp, .int .i64 1]]) (by simp [results, Try.results18, go_sem, x0, x1]) rfl ⟨FdPost.nil _ _ _ _, HBF.out⟩
  · have HA := Lib.hid (HFI.out.trans (if_pos hz))
    have hne1 : ¬ w.heap.size = w1.heap.size := by omega
    have hne2 : ¬ w1.heap.size = w.heap.size := by omega
    have hbf := ((HB2.out.setCell (p := ⟨w.heap.size, 0, none⟩) (by simp) (.int .i64 f1)).setCell (p := ⟨w.heap.size, 1, none⟩) (by simp) (.int .i64 f2)).drew
    have HBF := Lib.hid hbf
    clear hbf
    go_wp2_with fail
    go_region
    all_goals
      go_wp2_with fail
      rw [HA.out]
      exact bodyPost_ret (v := .tuple #[.slice none 0 0, .agg #[.int .i64 f1, .int .i64 f2]]) (by simp [results, Try.results18, go_sem, x0, x1]) rfl ⟨FdPost.nil _ _ _ _, HBF.out⟩

end Go.Proofs.Ytfmebbnccjaadaa
