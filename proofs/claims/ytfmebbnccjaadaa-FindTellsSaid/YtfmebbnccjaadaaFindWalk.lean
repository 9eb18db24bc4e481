/- The walks of find.Find and scriptref20.Find: they tell findP. -/
import Derived.Test.YtfmebbnccjaadaaFindP
import Derived.Test.YtfmebbnccjaadaaRunRun
import Derived.Test.YtfmebbnccjaadaaSame
import Derived.Deep.QuietTactic
import Derived.BigQuiet
namespace Go.Proofs.Ytfmebbnccjaadaa
open Go.RowKit

theorem infoHit : (Try.prog.info? 46).map (fun i => (i.zero, i.size, i.bytes)) = some (some (.agg #[.int .i64 0, .int .i64 0]), 2, 16) := by kernel_rfl
def FdPost (lo : Nat) (w' : World) (o : List (Int × Int) × (Int × Int)) (e : Ending) : Prop :=
  ∃ (A : Option Addr) (n c : Nat), e = .returned (.tuple #[.slice A n c, .agg #[.int .i64 o.2.1, .int .i64 o.2.2]]) ∧ RdX w' (fun b => lo ≤ b) 2 A n (shotCells o.1) ∧ n ≤ 1700000000
theorem FdPost.nil (lo : Nat) (w' : World) (a b : Int) : FdPost lo w' ([], (a, b)) (.returned (.tuple #[.slice none 0 0, .agg #[.int .i64 a, .int .i64 b]])) :=
  ⟨none, 0, 0, rfl, ⟨rfl, fun h => absurd h (Nat.lt_irrefl 0)⟩, Nat.zero_le _⟩
theorem link_get {l : List LinkD} {k : Nat} {x : LinkD} (h : l[k]? = some x) : (linkCells l)[k * 5]? = some (.int .i64 x.src) ∧ (linkCells l)[k * 5 + 1]? = some (.int .i64 x.upto) ∧ (linkCells l)[k * 5 + 2]? = some (.int .i64 x.beg) ∧ (linkCells l)[k * 5 + 3]? = some (.int .i64 x.fin) ∧ (linkCells l)[k * 5 + 4]? = some (.int .i64 x.rule) := by
  induction l generalizing k with
  | nil => simp at h
  | cons z l ih =>
    cases k with
    | zero => simp at h; subst h; exact ⟨by simp [linkCells], by simp [linkCells], by simp [linkCells], by simp [linkCells], by simp [linkCells]⟩
    | succ k =>
      have := ih (k := k) (by simpa using h)
      simp only [linkCells, List.flatMap_cons] at this ⊢
      have e1 : (k + 1) * 5 = k * 5 + 1 + 1 + 1 + 1 + 1 := by omega
      rw [e1]
      simpa using this
def FdRel (L : List LinkD) (txt p : List Int) (m : Nat) (W3 : World) (out i : Value) (wr : World) : Prop :=
  ∃ (k : Nat) (hs : List (Int × Int)) (n : Nat), k ≤ m ∧ i = .int .i64 k ∧ hs.length = n ∧ n ≤ k * 40000 ∧ allH txt p L = hs ++ allH txt p (L.drop k) ∧ wr.ownsRow W3.heap.size 46 2 out n (shotCells hs) ∧ Below W3.heap.size W3 wr
def FdRel2 (L : List LinkD) (txt p : List Int) (m k off : Nat) (x : LinkD) (W3 : World) (out j : Value) (wr : World) : Prop :=
  ∃ (q : Nat) (hs : List (Int × Int)) (n : Nat), k ≤ q ∧ q ≤ m ∧ j = .int .i64 ((q - off : Nat) : Int) ∧ hs.length = n ∧ n ≤ k * 40000 + (q - k) ∧ allH txt p L = hs ++ (rowH txt p x (L.drop q) ++ allH txt p (L.drop (k + 1))) ∧ wr.ownsRow W3.heap.size 46 2 out n (shotCells hs) ∧ Below W3.heap.size W3 wr
def FdRel3 (L : List LinkD) (txt p : List Int) (m k g : Nat) (x : LinkD) (cs : Array Value) (W3 : World) (out j : Value) (wr : World) : Prop :=
  ∃ (q : Nat) (hs : List (Int × Int)) (n : Nat), k ≤ q ∧ q ≤ m ∧ j = .int .i64 ((q - k : Nat) : Int) ∧ hs.length = n ∧ n ≤ k * 40000 + (q - k) ∧ allH txt p L = hs ++ (rowH txt p x (L.drop q) ++ allH txt p (L.drop (k + 1))) ∧ wr.ownsRow W3.heap.size 46 2 out n (shotCells hs) ∧ Below W3.heap.size W3 wr ∧ Blk wr g 41 cs
theorem seg_nil (txt : List Int) (b : Int) : segI txt b b = [] := by unfold segI; simp
theorem seg_nat (txt : List Int) (b e : Nat) : segI txt b e = (txt.drop b).take (e - b) := by
  unfold segI
  rw [Int.toNat_natCast, show ((e : Int) - (b : Int)).toNat = e - b by omega]
theorem hit_no {txt p : List Int} {x y : LinkD} (h : (segI txt x.beg y.fin == p) = false) : hitOf txt p x y = [] := by unfold hitOf; rw [if_neg (by rw [h]; decide)]
theorem hit_yes {txt p : List Int} {x y : LinkD} (h : (segI txt x.beg y.fin == p) = true) : hitOf txt p x y = [(x.src, y.upto)] := by unfold hitOf; rw [if_pos h]
theorem nil_beq {p : List Int} (h : p.length ≠ 0) : (([] : List Int) == p) = false := by
  rw [beq_eq_false_iff_ne]
  rintro rfl
  exact h rfl
theorem link_in {L : List LinkD} {n : Int} {k q : Nat} {x y : LinkD} (hc : chainL L 0 n) (hx : L[k]? = some x) (hy : L[q]? = some y) (hkq : k ≤ q) : 0 ≤ x.beg ∧ x.beg ≤ y.fin ∧ y.fin ≤ n ∧ ∃ b, x.beg ≤ b ∧ chainL (L.drop q) b n := by
  obtain ⟨b1, h1, c1⟩ := chain_drop L 0 n k hc
  rw [drop_at hx] at c1
  have e1 : x.beg = b1 := c1.1
  obtain ⟨b2, h2, c2⟩ := chain_drop (x :: L.drop (k + 1)) b1 n (q - k) c1
  have e2 : (x :: L.drop (k + 1)).drop (q - k) = L.drop q := by
    rw [← drop_at hx, List.drop_drop]
    congr 1
    omega
  rw [e2] at c2
  have c3 := c2
  rw [drop_at hy] at c3
  obtain ⟨_, h5⟩ := chain_le _ _ _ c3
  have h6 := h5 y (by simp)
  exact ⟨by omega, by omega, h6.2.2, b2, by omega, c2⟩


set_option maxRecDepth 100000 in
set_option maxHeartbeats 12800000 in
theorem find_find (X : Nat → Prop) (l : List RuleD) (Ar : Option Addr) (nr cr : Nat) (t p : List Int) (At Ap : Option Addr) (nt ct np cp : Nat) (w : World) (hnr : nr ≤ maxLen) (hl : ListX (RuleC w X) w X 7 Ar nr l) (hnt : nt ≤ maxLen) (ht : RdR w w.heap.size At nt t) (hnp : np ≤ maxLen) (hp : RdR w w.heap.size Ap np p) :
    Calls Try.prog 17 #[.slice Ar nr cr, .slice At nt ct, .slice Ap np cp] w fun e w' => FdPost w.heap.size w' (findP l t p) e ∧ Below w.heap.size w w' := by
  obtain ⟨i1, hi1, z0, z1, z2⟩ := info_parts infoHit
  have hb0 := (Below.refl w.heap.size w).alloc (Nat.le_refl _) (.cells #[.int .i64 0, .int .i64 0] 28)
  have HX0 := Lib.hid (Blk.new w 28 #[.int .i64 0, .int .i64 0])
  have HB0 := Lib.hid hb0
  have HL := Lib.hid (fun (W : World) (hb : Below w.heap.size w W) => show ListX (RuleC W X) W X 7 Ar nr l from hl.keep (Keeps.any hb) (fun _ _ => RuleC.keep (Keeps.any hb)))
  have HTT := Lib.hid (fun (W : World) (hb : Below w.heap.size w W) => show RdR W W.heap.size At nt t from (Rd.below ht hb).more hb.size)
  have HPT := Lib.hid (fun (W : World) (hb : Below w.heap.size w W) => show RdR W W.heap.size Ap np p from (Rd.below hp hb).more hb.size)
  have HP := Lib.hid (align_links X l Ar nr cr t At nt ct _ hnr (HL.out _ hb0) hnt (HTT.out _ hb0))
  have HPL := Lib.hid (show p.length = np from hp.len)
  have hok := @align_ok l t
  clear hb0 hl ht hp
  go_enter Try.func17, Try.ntmps17
  go_wp2_with fail
  refine HP.out.mono ?_
  rintro e w1 ⟨⟨A1, n1, c1, rfl, hr, hn1, hnc1⟩, hb1⟩
  obtain ⟨L, f1, f2, hP⟩ : ∃ L f1 f2, alignP l t = (L, (f1, f2)) := ⟨_, _, _, rfl⟩
  have HFI := Lib.hid (show findP l t p = if f1 ≠ 0 then ([], (f1, f2)) else if textP p ≠ 0 then ([], (textP p, 1)) else if p.length = 0 then ([], (6, 1)) else (allH (runRefP l t).1.text p L, (0, 0)) by unfold findP; rw [hP])
  rw [hP] at hr hok ⊢
  dsimp only at hr hok ⊢
  have HOK := Lib.hid hok
  have hba := (Below.refl w1.heap.size w1).alloc (Nat.le_refl _) (.cells #[.int .i64 f1, .int .i64 f2] 28)
  have hbb := hb1.trans (hba.mono hb1.size)
  have HF2 := Lib.hid (Blk.new w1 28 #[.int .i64 f1, .int .i64 f2])
  have HX2 := Lib.hid (Blk.below HX0.out hbb HX0.out.lt)
  have HB2 := Lib.hid (HB0.out.trans (hbb.mono HB0.out.size))
  have HR2 := Lib.hid (hr.keep (Keeps.any hba))
  have hw1 : w.heap.size < w1.heap.size := Nat.lt_of_lt_of_le HX0.out.lt hb1.size
  clear hb1 hr hP hba hbb HX0 HB0 HP hok
  go_upto_region 2 with fail
  generalize w1.alloc (.cells #[.int .i64 f1, .int .i64 f2] 28) = W2 at *
  have q0 := HF2.out.cell 0
  have q1 := HF2.out.cell 1
  have x0 := HX2.out.cell 0
  have x1 := HX2.out.cell 1
  have p0 := HX2.out.frozen 0
  have p1 := HX2.out.frozen 1
  by_cases hz : f1 = 0
  · subst hz
    have HA := Lib.hid (HFI.out.trans (if_neg (fun h => h rfl)))
    obtain ⟨hch, hLn, htn⟩ := HOK.out rfl
    have HCH := Lib.hid hch
    have HLN := Lib.hid (show L.length = n1 by have := HR2.out.1; rw [linkCells_length] at this; omega)
    have hn14 : n1 ≤ 40000 := by have := HLN.out; omega
    have HTX := Lib.hid (match_text Ap np cp p W2 hnp (HPT.out W2 HB2.out))
    clear hch hLn HFI HOK q1 x0 x1 p0 p1
    go_wp2_with fail
    refine HTX.out.mono ?_
    rintro e w3 ⟨rfl, hb3⟩
    have HX3 := Lib.hid (Blk.below HX2.out hb3 HX2.out.lt)
    have HB3 := Lib.hid (HB2.out.trans (hb3.mono HB2.out.size))
    have HR3 := Lib.hid (HR2.out.keep (Keeps.any hb3))
    clear hb3 HX2 HB2 HR2 HTX HF2 q0
    have x0 := HX3.out.cell 0
    have x1 := HX3.out.cell 1
    have p0 := HX3.out.frozen 0
    have p1 := HX3.out.frozen 1
    obtain ⟨tp, htp⟩ : ∃ tp, textP p = tp := ⟨_, rfl⟩
    have HTP := Lib.hid htp
    rw [htp] at HA ⊢
    by_cases hz : tp = 0
    · subst hz
      have HA2 := Lib.hid (HA.out.trans (if_neg (fun h => h rfl)))
      have hp4 := (textP_len htp).1
      clear htp HA
      by_cases hz : np = 0
      · have HG := Lib.hid (HA2.out.trans (if_pos (by rw [HPL.out]; exact hz)))
        subst hz
        have hbf := (HB3.out.setCell (p := ⟨w.heap.size, 0, none⟩) (by simp) (.int .i64 6)).setCell (p := ⟨w.heap.size, 1, none⟩) (by simp) (.int .i64 1)
        have HBF := Lib.hid hbf
        clear hbf HA2
        go_wp2_with fail
        rw [HG.out]
        exact bodyPost_ret (v := .tuple #[.slice none 0 0, .agg #[.int .i64 6, .int .i64 1]]) (by simp [results, Try.results17, go_sem, x0, x1]) rfl ⟨FdPost.nil _ _ _ _, HBF.out⟩
      · have HG := Lib.hid (HA2.out.trans (if_neg (by rw [HPL.out]; exact hz)))
        have hp0 : ((np : Int) == 0) = false := by rw [beq_eq_false_iff_ne]; omega
        have hnp4 : np ≤ 4000 := by have := HPL.out; omega
        have hnp1 : 1 ≤ np := by omega
        have HRN := Lib.hid (run_run2 X l Ar nr cr t At nt ct w3 hnr (HL.out w3 HB3.out) hnt (HTT.out w3 HB3.out))
        have hw3 := HX3.out.lt
        clear hz HA2 hp4 x0 x1 p0 p1
        go_wp2_with fail
        refine HRN.out.mono ?_
        rintro e w4 ⟨⟨A3, n3, c3, rfl, hr3, hnc3⟩, hb4⟩
        obtain ⟨⟨txt, s3, p3⟩, g1, g2, hC⟩ : ∃ o g1 g2, runRefP l t = (o, (g1, g2)) := ⟨_, _, _, rfl⟩
        rw [hC] at HG HCH htn hr3 ⊢
        dsimp only at HG HCH htn hr3 ⊢
        have hba := ((Below.refl w4.heap.size w4).alloc (Nat.le_refl _) (.cells #[.slice A3 n3 c3, .int .i64 s3, .int .i64 p3] 25)).alloc (by simp) (.cells #[.int .i64 g1, .int .i64 g2] 28)
        have hbb := hb4.trans (hba.mono hb4.size)
        have HX4 := Lib.hid (Blk.below HX3.out hbb HX3.out.lt)
        have HB4 := Lib.hid (HB3.out.trans (hbb.mono HB3.out.size))
        have HR4 := Lib.hid (HR3.out.keep (Keeps.any hbb))
        have HO4 := Lib.hid (show Blk ((w4.alloc (.cells #[.slice A3 n3 c3, .int .i64 s3, .int .i64 p3] 25)).alloc (.cells #[.int .i64 g1, .int .i64 g2] 28)) w4.heap.size 25 #[.slice A3 n3 c3, .int .i64 s3, .int .i64 p3] from (Blk.new w4 _ _).alloc _)
        have HT4 := Lib.hid (hr3.keep (Keeps.any hba))
        have HTN := Lib.hid (show txt.length = n3 by have := hr3.1; rw [runeCells_length] at this; omega)
        have hn34 : n3 ≤ 4000 := by have := HTN.out; omega
        have HPX := Lib.hid (HPT.out _ HB4.out)
        have hw4 : w.heap.size < w4.heap.size := Nat.lt_of_lt_of_le hw3 hb4.size
        clear hb4 hr3 hba hbb hC htn HX3 HB3 HR3 HRN
        go_upto_region 10 with fail
        generalize (w4.alloc (.cells #[.slice A3 n3 c3, .int .i64 s3, .int .i64 p3] 25)).alloc (.cells #[.int .i64 g1, .int .i64 g2] 28) = W3 at *
        have hw3' := HO4.out.lt
        have hwW : w.heap.size < W3.heap.size := by omega
        go_wp2_with fail
        go_loopw [13, 44] (FdRel L txt p n1 W3) (fun _ i _ => n1 - (intOf i).toNat)
        case atStart => exact ⟨0, [], 0, Nat.zero_le _, rfl, rfl, Nat.le_refl _, rfl, World.ownsRow_nil _ _ _ _, Below.refl _ _⟩
        case round =>
          obtain ⟨k, hs, n, hk, rfl, hhl, hnk, hall, ho, hb⟩ := hrel
          have HALL := Lib.hid hall
          have HHL := Lib.hid hhl
          have HO := Lib.hid ho
          have HB := Lib.hid hb
          have hz := hb.size
          obtain ⟨Ao, co, rfl, _⟩ := own_form ho
          clear hall hhl ho
          by_cases hlt : k < n1
          · obtain ⟨x, hx⟩ : ∃ x, L[k]? = some x := ⟨_, List.getElem?_eq_getElem (by rw [HLN.out]; exact hlt)⟩
            obtain ⟨b1, o1, rfl, _, hbb1, hcc⟩ := HR4.out.2 (by omega)
            have HCX := Lib.hid (fun (W : World) (hb : Below W3.heap.size W3 W) (q : Nat) (y : LinkD) (hy : L[q]? = some y) => show W.cell? ⟨b1, o1 + q * 5, none⟩ = some (.int .i64 y.src) ∧ W.cell? ⟨b1, o1 + q * 5 + 1, none⟩ = some (.int .i64 y.upto) ∧ W.cell? ⟨b1, o1 + q * 5 + 2, none⟩ = some (.int .i64 y.beg) ∧ W.cell? ⟨b1, o1 + q * 5 + 3, none⟩ = some (.int .i64 y.fin) ∧ W.cell? ⟨b1, o1 + q * 5 + 4, none⟩ = some (.int .i64 y.rule) from by
              obtain ⟨g0, g1, g2, g3, g4⟩ := link_get hy
              refine ⟨(hb.cell (p := ⟨b1, o1 + q * 5, none⟩) hbb1).trans (hcc _ _ g0), (hb.cell (p := ⟨b1, o1 + q * 5 + 1, none⟩) hbb1).trans ?_, (hb.cell (p := ⟨b1, o1 + q * 5 + 2, none⟩) hbb1).trans ?_, (hb.cell (p := ⟨b1, o1 + q * 5 + 3, none⟩) hbb1).trans ?_, (hb.cell (p := ⟨b1, o1 + q * 5 + 4, none⟩) hbb1).trans ?_⟩
              all_goals rw [Nat.add_assoc]
              · exact hcc _ _ g1
              · exact hcc _ _ g2
              · exact hcc _ _ g3
              · exact hcc _ _ g4)
            have HXX := Lib.hid hx
            have HST := Lib.hid (show allH txt p L = hs ++ (rowH txt p x (L.drop k) ++ allH txt p (L.drop (k + 1))) by rw [HALL.out, drop_at hx, allH_cons])
            obtain ⟨wo, rfl⟩ : ∃ wo : World, wo = wr := ⟨_, rfl⟩
            clear hx hcc hb
            go_wp2_with fail
            go_loopw [13, 15] (FdRel2 L txt p n1 k 0 x W3) (fun _ j _ => n1 - (intOf j).toNat)
            case atStart => exact ⟨k, hs, n, Nat.le_refl _, hk, rfl, HHL.out, by omega, HST.out, HO.out, HB.out⟩
            case round =>
              obtain ⟨q, hs2, n2, hkq, hqm, rfl, hhl2, hn2, hall2, ho2, hb2⟩ := hrel
              have HALL2 := Lib.hid hall2
              have HHL2 := Lib.hid hhl2
              have HO2 := Lib.hid ho2
              have HB2' := Lib.hid hb2
              have hz2 := hb2.size
              obtain ⟨Ao2, co2, rfl, _⟩ := own_form ho2
              rw [Nat.sub_zero]
              clear hall2 hhl2 ho2
              by_cases hqlt : q < n1
              · obtain ⟨y, hy⟩ : ∃ y, L[q]? = some y := ⟨_, List.getElem?_eq_getElem (by rw [HLN.out]; exact hqlt)⟩
                obtain ⟨hi0, hi1, hi2, bb, hi3, hi4⟩ := link_in HCH.out HXX.out hy hkq
                obtain ⟨bx, hbx⟩ : ∃ n : Nat, x.beg = (n : Int) := ⟨x.beg.toNat, by omega⟩
                obtain ⟨fy, hfy⟩ : ∃ n : Nat, y.fin = (n : Int) := ⟨y.fin.toNat, by omega⟩
                obtain ⟨_, _, cb, _, _⟩ := HCX.out wr HB2'.out k x HXX.out
                obtain ⟨_, _, _, cf, _⟩ := HCX.out wr HB2'.out q y hy
                have HFAR := Lib.hid (fun (h : np + bx < fy) => show rowH txt p x (L.drop q) = [] by
                  rw [drop_at hy] at hi4 ⊢
                  exact rowH_far hi0 hi4 (by rw [HPL.out, hfy, hbx]; omega))
                have hbf : bx ≤ fy := by omega
                have hfn : fy ≤ n3 := by have := HTN.out; omega
                have HROW := Lib.hid (show rowH txt p x (L.drop q) = hitOf txt p x y ++ rowH txt p x (L.drop (q + 1)) by rw [drop_at hy]; rfl)
                have HBX := Lib.hid hbx
                have HFY := Lib.hid hfy
                have HYY := Lib.hid hy
                rw [hbx] at cb
                rw [hfy] at cf
                have hg : decide ((q : Int) < (n1 : Int)) = true := decide_eq_true (by omega)
                have v1 : IntKind.i64.wrap ((fy : Int) - (bx : Int)) = (fy : Int) - (bx : Int) := IntWalk.i64_in _ (by omega)
                have hq0 : (0 : Int) ≤ (q : Int) := by omega
                have hq1 : (q : Int) < (n1 : Int) := by omega
                have hk0 : (0 : Int) ≤ (k : Int) := by omega
                have hk1 : (k : Int) < (n1 : Int) := by omega
                clear hi0 hi1 hi2 hi3 hi4 hbx hfy hy hb2
                by_cases hle : fy ≤ np + bx
                · have hd : decide ((fy : Int) - (bx : Int) ≤ (np : Int)) = true := decide_eq_true (by omega)
                  go_wp2_with fail
                  go_quiet (fail)
                  have HBQ := Lib.hid (below_drewN HB2'.out nq)
                  have HOQ := Lib.hid (show (wr.drewN nq).ownsRow W3.heap.size 46 2 (.slice Ao2 n2 co2) n2 (shotCells hs2) from HO2.out)
                  clear cb cf HB2' HO2 v1 hg hd
                  generalize wr.drewN nq = wq at *
                  have hzq := HBQ.out.size
                  obtain ⟨xs0, _, cb, _, _⟩ := HCX.out wq HBQ.out k x HXX.out
                  obtain ⟨_, yu0, _, cf, _⟩ := HCX.out wq HBQ.out q y HYY.out
                  rw [HBX.out] at cb
                  rw [HFY.out] at cf
                  have HO9 := Lib.hid (Blk.below HO4.out HBQ.out HO4.out.lt)
                  have t0 : wq.cell? ⟨w4.heap.size, 0, none⟩ = some (.slice A3 n3 c3) := HO9.out.cell 0
                  have hbx0 : (0 : Int) ≤ (bx : Int) := by omega
                  have hbx1 : (bx : Int) ≤ (fy : Int) := by omega
                  have hbx2 : (fy : Int) ≤ (c3 : Int) := by omega
                  have HSEG := Lib.hid (show ∃ E : Bool, (segI txt x.beg y.fin == p) = E from ⟨_, rfl⟩)
                  obtain ⟨E, hE⟩ := HSEG.out
                  have HEE := Lib.hid hE
                  have HPQ := Lib.hid (Rd.more (Rd.below HPX.out HBQ.out) HBQ.out.size)
                  clear hE HSEG
                  have hafter : True := trivial
                  by_cases hseg : fy = bx
                  · subst hseg
                    have hEf : E = false := by rw [← HEE.out, HBX.out, HFY.out, seg_nil]; exact nil_beq (by rw [HPL.out]; omega)
                    subst hEf
                    have HEQ := Lib.hid (fun (A' : Option Addr) (cc qq : Nat) => show Calls Try.prog 52 #[.slice A' 0 cc, .slice Ap np cp] (wq.drewN qq) fun e w' => e = .returned (.bool false) ∧ ∃ k, w' = (wq.drewN qq).drewN k by
                      have h := equal_runes A' Ap 0 np cc cp [] p (wq.drewN qq) (by omega) Rd.nil HPQ.out
                      rwa [nil_beq (by rw [HPL.out]; omega)] at h)
                    have HNEXT := Lib.hid (show allH txt p L = hs2 ++ (rowH txt p x (L.drop (q + 1)) ++ allH txt p (L.drop (k + 1))) by rw [HALL2.out, HROW.out, hit_no HEE.out, List.nil_append])
                    cases A3 with
                    | none =>
                      have hn30 : n3 = 0 := by
                        rcases Nat.eq_zero_or_pos n3 with h | h
                        · exact h
                        · obtain ⟨_, _, e, _⟩ := HT4.out.2 h
                          cases e
                      subst hn30
                      obtain rfl : fy = 0 := by omega
                      go_wp2_with fail
                      go_quiet (first | (go_at_call 52; exact Calls.quiet_of (HEQ.out _ _ _)))
                      have HBQ2 := Lib.hid (below_drewN HBQ.out nq)
                      have HOQ2 := Lib.hid (show (wq.drewN nq).ownsRow W3.heap.size 46 2 (.slice Ao2 n2 co2) n2 (shotCells hs2) from HOQ.out)
                      go_wp2_with fail
                      exact ⟨⟨q + 1, hs2, n2, by omega, by omega, by rw [Nat.sub_zero]; go_num, HHL2.out, by omega, HNEXT.out, HOQ2.out, HBQ2.out⟩, by simp [intOf]; omega⟩
                    | some a3 =>
                      obtain ⟨b3, o3, s3'⟩ := a3
                      go_wp2_with fail
                      go_quiet (first | (go_at_call 52; exact Calls.quiet_of (HEQ.out _ _ _)))
                      have HBQ2 := Lib.hid (below_drewN HBQ.out nq)
                      have HOQ2 := Lib.hid (show (wq.drewN nq).ownsRow W3.heap.size 46 2 (.slice Ao2 n2 co2) n2 (shotCells hs2) from HOQ.out)
                      go_wp2_with fail
                      exact ⟨⟨q + 1, hs2, n2, by omega, by omega, by rw [Nat.sub_zero]; go_num, HHL2.out, by omega, HNEXT.out, HOQ2.out, HBQ2.out⟩, by simp [intOf]; omega⟩
                  · obtain ⟨b3, o3, rfl, _, hb3, hc3⟩ := HT4.out.2 (by omega)
                    have hne3 : ¬ c3 = bx := by omega
                    have HEQ := Lib.hid (fun (qq : Nat) => show Calls Try.prog 52 #[.slice (some ⟨b3, o3 + bx, none⟩) (fy - bx) (c3 - bx), .slice Ap np cp] (wq.drewN qq) fun e w' => e = .returned (.bool E) ∧ ∃ k, w' = (wq.drewN qq).drewN k by
                      have hrd := (rdx_take (k := fy - bx) (rdx_drop (k := bx) (HT4.out.keep (Keeps.any HBQ.out)) (by omega)) (by omega)).of
                      rw [runeCells_drop, runeCells_take] at hrd
                      have h := equal_runes (some ⟨b3, o3 + bx, none⟩) Ap (fy - bx) np (c3 - bx) cp _ p (wq.drewN qq) (by omega) hrd HPQ.out
                      rwa [← seg_nat, ← HBX.out, ← HFY.out, HEE.out] at h)
                    clear hc3
                    go_wp2_with fail
                    go_quiet (first | (go_at_call 52; exact Calls.quiet_of (HEQ.out _)))
                    have HBQ2 := Lib.hid (below_drewN HBQ.out nq)
                    have HOQ2 := Lib.hid (show (wq.drewN nq).ownsRow W3.heap.size 46 2 (.slice Ao2 n2 co2) n2 (shotCells hs2) from HOQ.out)
                    clear t0 cb cf xs0 yu0 HEQ
                    generalize wq.drewN nq = wz at *
                    cases E
                    · have HNEXT := Lib.hid (show allH txt p L = hs2 ++ (rowH txt p x (L.drop (q + 1)) ++ allH txt p (L.drop (k + 1))) by rw [HALL2.out, HROW.out, hit_no HEE.out, List.nil_append])
                      go_wp2_with fail
                      exact ⟨⟨q + 1, hs2, n2, by omega, by omega, by rw [Nat.sub_zero]; go_num, HHL2.out, by omega, HNEXT.out, HOQ2.out, HBQ2.out⟩, by simp [intOf]; omega⟩
                    · have HNEXT := Lib.hid (show allH txt p L = (hs2 ++ [(x.src, y.upto)]) ++ (rowH txt p x (L.drop (q + 1)) ++ allH txt p (L.drop (k + 1))) by rw [HALL2.out, HROW.out, hit_yes HEE.out, List.append_assoc, List.append_assoc])
                      obtain ⟨xs0, _, _, _, _⟩ := HCX.out wz HBQ2.out k x HXX.out
                      obtain ⟨_, yu0, _, _, _⟩ := HCX.out wz HBQ2.out q y HYY.out
                      have hzz := HBQ2.out.size
                      go_upto_region 18 with fail
                      have hba : Below wz.heap.size wz ((wz.alloc (.cells #[.int .i64 x.src, .int .i64 y.upto] 46)).drew) := below_drew1 ((Below.refl wz.heap.size wz).alloc (Nat.le_refl _) _)
                      have HOA := Lib.hid (show ((wz.alloc (.cells #[.int .i64 x.src, .int .i64 y.upto] 46)).drew).ownsRow W3.heap.size 46 2 (.slice Ao2 n2 co2) n2 (shotCells hs2) from World.ownsRow.alloc HOQ2.out (.cells #[.int .i64 x.src, .int .i64 y.upto] 46))
                      have HBA := Lib.hid (HBQ2.out.trans (hba.mono hzz))
                      have HNA := Lib.hid (show Rd ((wz.alloc (.cells #[.int .i64 x.src, .int .i64 y.upto] 46)).drew) ((wz.alloc (.cells #[.int .i64 x.src, .int .i64 y.upto] 46)).drew).heap.size 2 (some ⟨wz.heap.size, 0, none⟩) 1 [.int .i64 x.src, .int .i64 y.upto] by
                        have h0 := Rd.new wz 46 2 1 [.int .i64 x.src, .int .i64 y.upto] rfl
                        exact h0.drew.more (by simp))
                      have H1A := Lib.hid (show ∀ u ∈ [Value.int .i64 x.src, .int .i64 y.upto], u.oneCell' = true by intro u hu; simp at hu; rcases hu with rfl | rfl <;> rfl)
                      clear hba
                      refine wp_region_till (S := (fun w' => w'.cell? ⟨b1, o1 + k * 5, none⟩ = some (.int .i64 x.src) ∧ w'.cell? ⟨b1, o1 + q * 5 + 1, none⟩ = some (.int .i64 y.upto))) [5, 10] (by kernel_rfl) ⟨xs0, yu0⟩ (fun hHeld => ?_)
                      refine wpTill_pure (i := 0) (oi := ⟨some 85, _, _, _, _, _⟩) (v := ?_) rfl (by kernel_rfl) (by kernel_rfl) (by kernel_rfl) (fun _ _ _ h => h) (Or.inl ⟨by rfl, ?_⟩) ?_
                      rotate_left 1
                      · intro wq _
                        go_simp
                        try with_reducible rfl
                      try simp only [Act.put, List.setIfInBounds_toArray, List.set_cons_zero, List.set_cons_succ]
                      refine wpTill_pure (i := 1) (oi := ⟨some 86, _, _, _, _, _⟩) (v := ?_) rfl (by kernel_rfl) (by kernel_rfl) (by kernel_rfl) (fun _ _ _ h => h) (Or.inl ⟨by rfl, ?_⟩) ?_
                      rotate_left 1
                      · intro wq _
                        go_simp
                        try with_reducible rfl
                      try simp only [Act.put, List.setIfInBounds_toArray, List.set_cons_zero, List.set_cons_succ]
                      refine wpTill_pure (i := 2) (oi := ⟨some 87, _, _, _, _, _⟩) (v := ?_) rfl (by kernel_rfl) (by kernel_rfl) (by kernel_rfl) (fun _ _ _ h => h) (Or.inl ⟨by rfl, ?_⟩) ?_
                      rotate_left 1
                      · intro wq _
                        go_simp
                        try with_reducible rfl
                      try simp only [Act.put, List.setIfInBounds_toArray, List.set_cons_zero, List.set_cons_succ]
                      refine wpTill_pure (i := 3) (oi := ⟨some 88, _, _, _, _, _⟩) (v := ?_) rfl (by kernel_rfl) (by kernel_rfl) (by kernel_rfl) (fun _ _ _ h => h) (Or.inl ⟨by rfl, ?_⟩) ?_
                      rotate_left 1
                      · intro wq _
                        go_simp
                        try with_reducible rfl
                      try simp only [Act.put, List.setIfInBounds_toArray, List.set_cons_zero, List.set_cons_succ]
                      refine wpTill_pure (i := 4) (oi := ⟨some 89, _, _, _, _, _⟩) (v := ?_) rfl (by kernel_rfl) (by kernel_rfl) (by kernel_rfl) (fun _ _ _ h => h) (Or.inl ⟨by rfl, ?_⟩) ?_
                      rotate_left 1
                      · intro wq _
                        go_simp
                        try with_reducible rfl
                      try simp only [Act.put, List.setIfInBounds_toArray, List.set_cons_zero, List.set_cons_succ]
                      refine wpTill_take (i := 5) (oi := ⟨some 90, _, _, _, _, _⟩) (v := ?_) rfl (by kernel_rfl) (by kernel_rfl) (by kernel_rfl) (by kernel_rfl) (by kernel_rfl) (fun _ _ _ h => h) (Or.inl ⟨by rfl, ?_⟩) (by assumption) ?_
                      rotate_left 1
                      · intro wq hSw
                        (try dsimp only at hSw)
                        go_simp
                        try with_reducible rfl
                      try simp only [Act.put, List.setIfInBounds_toArray, List.set_cons_zero, List.set_cons_succ]
                      refine wpTill_pure (i := 6) (oi := ⟨some 91, _, _, _, _, _⟩) (v := ?_) rfl (by kernel_rfl) (by kernel_rfl) (by kernel_rfl) (fun _ _ _ h => h) (Or.inl ⟨by rfl, ?_⟩) ?_
                      rotate_left 1
                      · intro wq _
                        go_simp
                        try with_reducible rfl
                      try simp only [Act.put, List.setIfInBounds_toArray, List.set_cons_zero, List.set_cons_succ]
                      refine wpTill_pure (i := 7) (oi := ⟨some 92, _, _, _, _, _⟩) (v := ?_) rfl (by kernel_rfl) (by kernel_rfl) (by kernel_rfl) (fun _ _ _ h => h) (Or.inl ⟨by rfl, ?_⟩) ?_
                      rotate_left 1
                      · intro wq _
                        go_simp
                        try with_reducible rfl
                      try simp only [Act.put, List.setIfInBounds_toArray, List.set_cons_zero, List.set_cons_succ]
                      refine wpTill_pure (i := 8) (oi := ⟨some 93, _, _, _, _, _⟩) (v := ?_) rfl (by kernel_rfl) (by kernel_rfl) (by kernel_rfl) (fun _ _ _ h => h) (Or.inl ⟨by rfl, ?_⟩) ?_
                      rotate_left 1
                      · intro wq _
                        go_simp
                        try with_reducible rfl
                      try simp only [Act.put, List.setIfInBounds_toArray, List.set_cons_zero, List.set_cons_succ]
                      refine wpTill_pure (i := 9) (oi := ⟨some 94, _, _, _, _, _⟩) (v := ?_) rfl (by kernel_rfl) (by kernel_rfl) (by kernel_rfl) (fun _ _ _ h => h) (Or.inl ⟨by rfl, ?_⟩) ?_
                      rotate_left 1
                      · intro wq _
                        go_simp
                        try with_reducible rfl
                      try simp only [Act.put, List.setIfInBounds_toArray, List.set_cons_zero, List.set_cons_succ]
                      refine wpTill_take (i := 10) (oi := ⟨some 95, _, _, _, _, _⟩) (v := ?_) rfl (by kernel_rfl) (by kernel_rfl) (by kernel_rfl) (by kernel_rfl) (by kernel_rfl) (fun _ _ _ h => h) (Or.inl ⟨by rfl, ?_⟩) (by assumption) ?_
                      rotate_left 1
                      · intro wq hSw
                        (try dsimp only at hSw)
                        go_simp
                        try with_reducible rfl
                      try simp only [Act.put, List.setIfInBounds_toArray, List.set_cons_zero, List.set_cons_succ]
                      refine wpTill_pure (i := 11) (oi := ⟨some 96, _, _, _, _, _⟩) (v := ?_) rfl (by kernel_rfl) (by kernel_rfl) (by kernel_rfl) (fun _ _ _ h => h) (Or.inl ⟨by rfl, ?_⟩) ?_
                      rotate_left 1
                      · intro wq _
                        go_simp
                        try with_reducible rfl
                      try simp only [Act.put, List.setIfInBounds_toArray, List.set_cons_zero, List.set_cons_succ]
                      refine wpTill_late (i := 12) (o := ⟨some 97, _, _, _, _, _⟩) (by kernel_rfl) rfl (by kernel_rfl) (fun K hK => ?_)
                      go_simp
                      try dsimp only
                      refine hK.out _ _ ?_
                      clear hK K
                      try simp only [Act.put, List.setIfInBounds_toArray, List.set_cons_zero, List.set_cons_succ]
                      refine wpTill_late (i := 13) (o := ⟨some 98, _, _, _, _, _⟩) (by kernel_rfl) rfl (by kernel_rfl) (fun K hK => ?_)
                      refine step_append_rd _ rfl (.tmp 85) (.tmp 97) 42 rfl W3.heap.size 46 i1 _ 2 16 Try.underlying42 hi1 z0 z1 z2 rfl (by decide) _ n2 _ rfl HOA.out _ (some ⟨wz.heap.size, 0, none⟩) 1 1 [.int .i64 x.src, .int .i64 y.upto] rfl HNA.out H1A.out (by simp only [maxLen]; omega) (by omega) HBA.out.size ?_
                      intro v9 w9 happ
                      have HB9 := Lib.hid (HBA.out.trans (happ.below HBA.out.size HOA.out))
                      have HO9' := Lib.hid (show w9.ownsRow W3.heap.size 46 2 v9 (n2 + 1) (shotCells (hs2 ++ [(x.src, y.upto)])) by rw [shotCells_append]; exact happ.own)
                      clear happ HOA HNA H1A HBA
                      try dsimp only
                      refine hK.out _ _ ?_
                      clear hK K
                      try simp only [Act.put, List.setIfInBounds_toArray, List.set_cons_zero, List.set_cons_succ]
                      refine wpTill_pure (i := 14) (oi := ⟨some 13, _, _, _, _, _⟩) (v := ?_) rfl (by kernel_rfl) (by kernel_rfl) (by kernel_rfl) (fun _ _ _ h => h) (Or.inl ⟨by rfl, ?_⟩) ?_
                      rotate_left 1
                      · intro wq _
                        go_simp
                        try with_reducible rfl
                      try simp only [Act.put, List.setIfInBounds_toArray, List.set_cons_zero, List.set_cons_succ]
                      refine wpTill_done (by kernel_rfl) ?_ _
                      go_simp
                      go_wp2_with fail
                      exact ⟨⟨q + 1, hs2 ++ [(x.src, y.upto)], n2 + 1, by omega, by omega, by rw [Nat.sub_zero]; go_num, by rw [List.length_append, HHL2.out]; rfl, by omega, HNEXT.out, HO9'.out, HB9.out⟩, by simp [intOf]; omega⟩
                · have hd : decide ((fy : Int) - (bx : Int) ≤ (np : Int)) = false := decide_eq_false (by omega)
                  have HNEXT := Lib.hid (show allH txt p L = hs2 ++ allH txt p (L.drop (k + 1)) by rw [HALL2.out, HFAR.out (by omega), List.nil_append])
                  go_wp2_with fail
                  go_quiet (fail)
                  have HBZ := Lib.hid (below_drewN HB2'.out nq)
                  have HOZ := Lib.hid (show (wr.drewN nq).ownsRow W3.heap.size 46 2 (.slice Ao2 n2 co2) n2 (shotCells hs2) from HO2.out)
                  go_wp2_with fail
                  exact ⟨⟨k + 1, hs2, n2, by omega, by go_num, HHL2.out, by omega, HNEXT.out, HOZ.out, HBZ.out⟩, by simp [intOf]; omega⟩
              · obtain rfl : q = n1 := by omega
                have hg : decide ((q : Int) < (q : Int)) = false := decide_eq_false (by omega)
                go_wp2_with fail
                go_quiet (fail)
                have HBZ := Lib.hid (below_drewN HB2'.out nq)
                have HOZ := Lib.hid (show (wr.drewN nq).ownsRow W3.heap.size 46 2 (.slice Ao2 n2 co2) n2 (shotCells hs2) from HO2.out)
                go_wp2_with fail
                refine ⟨⟨k + 1, hs2, n2, by omega, by go_num, HHL2.out, by omega, ?_, HOZ.out, HBZ.out⟩, by simp [intOf]; omega⟩
                rw [HALL2.out, List.drop_of_length_le (by rw [HLN.out]; exact Nat.le_refl _)]
                rfl
          · obtain rfl : k = n1 := by omega
            have HFIN := Lib.hid (show allH txt p L = hs by rw [HALL.out, List.drop_of_length_le (by rw [HLN.out]; exact Nat.le_refl _)]; exact List.append_nil _)
            have HX9 := Lib.hid (Blk.below HX4.out HB.out HX4.out.lt)
            have x0 := HX9.out.cell 0
            have x1 := HX9.out.cell 1
            have p0 := HX9.out.frozen 0
            have p1 := HX9.out.frozen 1
            have HB9 := Lib.hid (HB4.out.trans (HB.out.mono HB4.out.size))
            have hbf := (HB9.out.setCell (p := ⟨w.heap.size, 0, none⟩) (by simp) (.int .i64 0)).setCell (p := ⟨w.heap.size, 1, none⟩) (by simp) (.int .i64 0)
            have h5 := own_set_low (own_set_low HO.out (p := ⟨w.heap.size, 0, none⟩) (by simp only; omega) (.int .i64 0)) (p := ⟨w.heap.size, 1, none⟩) (by simp only; omega) (.int .i64 0)
            have HR := Lib.hid (show RdX ((wr.setCell ⟨w.heap.size, 0, none⟩ (.int .i64 0)).setCell ⟨w.heap.size, 1, none⟩ (.int .i64 0)) (fun b => w.heap.size ≤ b) 2 Ao n (shotCells (allH txt p L)) by
              rw [HFIN.out]
              exact RdX.of_own h5 (fun b hb => Nat.le_trans (Nat.le_of_lt hwW) (own_lt h5 hb).1))
            have HBF := Lib.hid hbf
            clear hbf h5 hb
            go_wp2_with fail
            rw [HG.out]
            exact bodyPost_ret (v := .tuple #[.slice Ao n co, .agg #[.int .i64 0, .int .i64 0]]) (by simp [results, Try.results17, go_sem, x0, x1]) rfl ⟨⟨Ao, n, co, rfl, HR.out, by omega⟩, HBF.out⟩
    · have HG := Lib.hid (HA.out.trans (if_pos hz))
      have hbf := (HB3.out.setCell (p := ⟨w.heap.size, 0, none⟩) (by simp) (.int .i64 tp)).setCell (p := ⟨w.heap.size, 1, none⟩) (by simp) (.int .i64 1)
      have HBF := Lib.hid hbf
      clear hbf HA htp
      go_wp2_with fail
      rw [HG.out]
      exact bodyPost_ret (v := .tuple #[.slice none 0 0, .agg #[.int .i64 tp, .int .i64 1]]) (by simp [results, Try.results17, go_sem, x0, x1]) rfl ⟨FdPost.nil _ _ _ _, HBF.out⟩
  · have HA := Lib.hid (HFI.out.trans (if_pos hz))
    have hne1 : ¬ w.heap.size = w1.heap.size := by omega
    have hne2 : ¬ w1.heap.size = w.heap.size := by omega
    have hbf := ((HB2.out.setCell (p := ⟨w.heap.size, 0, none⟩) (by simp) (.int .i64 f1)).setCell (p := ⟨w.heap.size, 1, none⟩) (by simp) (.int .i64 f2)).drew
    have HBF := Lib.hid hbf
    clear hbf
    go_wp2_with fail
    go_region
    all_goals
      go_wp2_with fail
      rw [HA.out]
      exact bodyPost_ret (v := .tuple #[.slice none 0 0, .agg #[.int .i64 f1, .int .i64 f2]]) (by simp [results, Try.results17, go_sem, x0, x1]) rfl ⟨FdPost.nil _ _ _ _, HBF.out⟩

end Go.Proofs.Ytfmebbnccjaadaa
