/- The walk of scriptref15.Links: it tells alignP. -/
import Derived.Test.YtfmebbnccjaadaaRefPut
import Derived.Test.YtfmebbnccjaadaaRefCompile
import Derived.Test.YtfmebbnccjaadaaLinks
namespace Go.Proofs.Ytfmebbnccjaadaa
open Go.RowKit

/-- The three ways: the check fails; the rules have too many heads; both runs are the same. -/
theorem play_ways (l : List RuleD) (t : List Int) :
    (∃ c1 c2, c1 ≠ 0 ∧ checkP l t = (c1, c2) ∧ playP l t = (noOut, (c1, c2))) ∨ ∃ c2, checkP l t = (0, c2) ∧
      ((∃ hs k1 k2, k1 ≠ 0 ∧ compP l = (hs, (k1, k2)) ∧ playP l t = (noOut, (k1, k2))) ∨ ∃ hs k2, compP l = (hs, (0, k2)) ∧ playP l t = runRefP l t) := by
  obtain ⟨r1, r2, hR⟩ : ∃ r1 r2, rulesW l = (r1, r2) := ⟨_, _, rfl⟩
  obtain ⟨hs, k1, k2, hC⟩ : ∃ hs k1 k2, compP l = (hs, (k1, k2)) := ⟨_, _, _, rfl⟩
  unfold playP runRefP checkP
  rw [hR, hC]
  simp only
  by_cases h1 : r1 = 0
  · rw [if_neg (fun h => h h1), if_neg (fun h => h h1)]
    by_cases h2 : textP t = 0
    · rw [if_neg (fun h => h h2)]
      refine .inr ⟨0, by rw [h2], ?_⟩
      by_cases h3 : k1 = 0
      · subst h3
        exact .inr ⟨hs, k2, rfl, by rw [if_neg (fun h => h rfl), if_neg (fun h => h h2)]⟩
      · exact .inl ⟨hs, k1, k2, h3, rfl, by rw [if_pos h3]⟩
    · exact .inl ⟨_, _, h2, rfl, by rw [if_pos h2]⟩
  · exact .inl ⟨r1, r2, h1, by rw [if_pos h1], by rw [if_pos h1]⟩
theorem align_ref (l : List RuleD) (t : List Int) : alignP l t = if (checkP l t).1 ≠ 0 then ([], checkP l t) else if (compP l).2.1 ≠ 0 then ([], (compP l).2) else if (runRefP l t).2.1 ≠ 0 then ([], (runRefP l t).2) else if sureP l = false then ([], (8, 0)) else (linksGo l 0 (traceP l t), (0, 0)) := by
  unfold alignP
  rcases play_ways l t with ⟨k1, k2, hk, e1, e2⟩ | ⟨k2, e1, ⟨hs, m1, m2, hk, e2, e3⟩ | ⟨hs, m2, e2, e3⟩⟩
  · rw [e1, e2, if_pos hk, if_pos hk]
  · rw [e1, e2, e3, if_pos hk, if_neg (fun h => h rfl), if_pos hk]
  · rw [e1, e2, e3, if_neg (c := (0, k2).1 ≠ 0) (fun h => h rfl), if_neg (c := ((hs, (0, m2)) : List HeadD × (Int × Int)).2.1 ≠ 0) (fun h => h rfl)]
theorem runRef_zero {l : List RuleD} {t : List Int} (h1 : (checkP l t).1 = 0) (h : (runRefP l t).2.1 = 0) : (runGo l (8 * t.length + 40) [] t 0 0).2 = 0 := by
  unfold runRefP at h
  rw [if_neg (fun h2 => h2 h1)] at h
  exact okOut_zero h
theorem trace_len (l : List RuleD) : ∀ (left : Nat) (done rest : List Int), (traceGo l left done rest).length ≤ left := by
  intro left
  induction left with
  | zero => intro done rest; cases rest <;> simp [traceGo]
  | succ left ih =>
    intro done rest
    cases rest with
    | nil => rw [traceGo_nil]; exact Nat.zero_le _
    | cons z rest =>
      rw [traceGo]
      split
      · have := ih (done ++ [z]) rest; simp only [List.length_cons]; omega
      · split
        · simp
        · simp only [List.length_cons]
          rename_i r _
          have := ih (done ++ (r.target ++ (z :: rest).drop r.source.length).take r.cursor.toNat) ((r.target ++ (z :: rest).drop r.source.length).drop r.cursor.toNat)
          omega
def sliceLen : Value → Nat
  | .slice _ n _ => n
  | _ => 0
def NowX (v : Value) (b : Nat) : Prop := v.ownBlock ≠ some b
def RlRel (l : List RuleD) (t : List Int) (lim : Nat) (W3 : World) (out now src at_ : Value) (wr : World) : Prop :=
  ∃ (tr : List (Int × Int)) (done rest : List Int) (left s p m : Nat) (b o c : Nat), traceGo l lim [] t = tr ++ traceGo l left done rest ∧ runGo l lim [] t 0 0 = runGo l left done rest s p ∧ m + left = lim ∧ tr.length = m ∧
    done.length + rest.length ≤ 4000 ∧ at_ = .int .i64 done.length ∧ src = .int .i64 (lenGo l tr) ∧ now = .slice (some ⟨b, o, none⟩) (done.length + rest.length) c ∧ done.length + rest.length ≤ c ∧
    wr.ownsRow W3.heap.size 41 5 out m (linkCells (linksGo l 0 tr)) ∧ RdX wr (NowX out) 1 (some ⟨b, o, none⟩) (done.length + rest.length) (runeCells (done ++ rest)) ∧ Below W3.heap.size W3 wr
theorem sure_cur {l : List RuleD} (h : sureP l = true) {k : Nat} {r : RuleD} (hk : l[k]? = some r) : r.cursor.toNat = r.target.length := by
  unfold sureP at h
  have := List.all_eq_true.1 h r (List.mem_of_getElem? hk)
  rw [beq_iff_eq] at this
  omega

set_option maxRecDepth 100000 in
set_option maxHeartbeats 6400000 in
theorem ref15_links (X : Nat → Prop) (l : List RuleD) (Ar : Option Addr) (nr cr : Nat) (t : List Int) (At : Option Addr) (nt ct : Nat) (w : World) (hnr : nr ≤ maxLen) (hl : ListX (RuleC w X) w X 7 Ar nr l) (hnt : nt ≤ maxLen) (ht : RdR w w.heap.size At nt t) :
    Calls Try.prog 16 #[.slice Ar nr cr, .slice At nt ct] w fun e w' => AlPost w.heap.size w' (alignP l t) e ∧ Below w.heap.size w w' := by
  obtain ⟨i1, hi1, z0, z1, z2⟩ := info_parts infoLink
  obtain ⟨i0, hi0, y0', y1', y2'⟩ := info_parts Try.info21
  have hb0 := (Below.refl w.heap.size w).alloc (Nat.le_refl _) (.cells #[.int .i64 0, .int .i64 0] 28)
  have HX0 := Lib.hid (Blk.new w 28 #[.int .i64 0, .int .i64 0])
  have HB0 := Lib.hid hb0
  have HL := Lib.hid (fun (W : World) (hb : Below w.heap.size w W) => show ListX (RuleC W X) W X 7 Ar nr l from hl.keep (Keeps.any hb) (fun _ _ => RuleC.keep (Keeps.any hb)))
  have HT := Lib.hid (fun (W : World) (hb : Below w.heap.size w W) => show RdR W W.heap.size At nt t from (Rd.below ht hb).more hb.size)
  have HNR := Lib.hid (show l.length = nr from hl.len)
  have HNT := Lib.hid (show t.length = nt from ht.len)
  have HP := Lib.hid (ref8_check X l Ar At nr cr nt ct t _ hnr (HL.out _ hb0) hnt (HT.out _ hb0))
  have HAL := Lib.hid (align_ref l t)
  have HRZ := Lib.hid (@runRef_zero l t)
  have HCK := Lib.hid (@check_ok l t)
  clear hb0 hl ht
  go_enter Try.func16, Try.ntmps16
  go_wp2_with fail
  refine HP.out.mono ?_
  rintro e w1 ⟨rfl, hb1⟩
  obtain ⟨f1, f2, hP⟩ : ∃ f1 f2, checkP l t = (f1, f2) := ⟨_, _, rfl⟩
  rw [hP] at HAL HRZ HCK ⊢
  dsimp only at HAL HRZ HCK ⊢
  have hbb := hb1.trans (((Below.refl w1.heap.size w1).alloc (Nat.le_refl _) (.cells #[.int .i64 f1, .int .i64 f2] 28)).mono hb1.size)
  have HX1 := Lib.hid (Blk.below HX0.out hbb HX0.out.lt)
  have HB1 := Lib.hid (HB0.out.trans (hbb.mono HB0.out.size))
  have HF1 := Lib.hid (Blk.new w1 28 #[.int .i64 f1, .int .i64 f2])
  have hw1 : w.heap.size < w1.heap.size := Nat.lt_of_lt_of_le HX0.out.lt hb1.size
  clear hb1 hbb hP HX0 HB0 HP
  go_upto_region 2 with fail
  generalize w1.alloc (.cells #[.int .i64 f1, .int .i64 f2] 28) = W1 at *
  have q0 := HF1.out.cell 0
  have q1 := HF1.out.cell 1
  have x0 := HX1.out.cell 0
  have x1 := HX1.out.cell 1
  have p0 := HX1.out.frozen 0
  have p1 := HX1.out.frozen 1
  have hne1 : ¬ w.heap.size = w1.heap.size := by omega
  have hne2 : ¬ w1.heap.size = w.heap.size := by omega
  by_cases hz : f1 = 0
  · subst hz
    have HA2 := Lib.hid (HAL.out.trans (if_neg (fun h => h rfl)))
    have HR2 := Lib.hid (HRZ.out rfl)
    have HK2 := Lib.hid (HCK.out rfl)
    have HCM := Lib.hid (ref_compile X l Ar nr cr W1 hnr (HL.out W1 HB1.out))
    clear HAL HRZ HCK
    go_wp2_with fail
    refine HCM.out.mono ?_
    rintro e w2 ⟨⟨vh, rfl, _⟩, hb2⟩
    obtain ⟨hs, k1, k2, hC⟩ : ∃ hs k1 k2, compP l = (hs, (k1, k2)) := ⟨_, _, _, rfl⟩
    rw [hC] at HA2 ⊢
    dsimp only at HA2 ⊢
    have hbb := hb2.trans (((Below.refl w2.heap.size w2).alloc (Nat.le_refl _) (.cells #[.int .i64 k1, .int .i64 k2] 28)).mono hb2.size)
    have HX2 := Lib.hid (Blk.below HX1.out hbb HX1.out.lt)
    have HB2 := Lib.hid (HB1.out.trans (hbb.mono HB1.out.size))
    have HF2 := Lib.hid (Blk.new w2 28 #[.int .i64 k1, .int .i64 k2])
    have hw2 : w.heap.size < w2.heap.size := Nat.lt_of_lt_of_le HX1.out.lt hb2.size
    clear hb2 hbb hC HX1 HB1 HCM q0 q1 x0 x1 p0 p1 hne1 hne2 HF1
    go_upto_region 5 with fail
    generalize w2.alloc (.cells #[.int .i64 k1, .int .i64 k2] 28) = W2 at *
    have q0 := HF2.out.cell 0
    have q1 := HF2.out.cell 1
    have x0 := HX2.out.cell 0
    have x1 := HX2.out.cell 1
    have p0 := HX2.out.frozen 0
    have p1 := HX2.out.frozen 1
    have hne1 : ¬ w.heap.size = w2.heap.size := by omega
    have hne2 : ¬ w2.heap.size = w.heap.size := by omega
    by_cases hz : k1 = 0
    · subst hz
      have HA3 := Lib.hid (HA2.out.trans (if_neg (fun h => h rfl)))
      have HRN := Lib.hid (ref8_run X l Ar nr cr t At nt ct W2 hnr (HL.out W2 HB2.out) hnt (HT.out W2 HB2.out))
      clear HA2
      go_wp2_with fail
      refine HRN.out.mono ?_
      rintro e w3 ⟨⟨A3, n3, c3, rfl, _⟩, hb3⟩
      obtain ⟨⟨x3, s3, p3⟩, g1, g2, hC⟩ : ∃ o g1 g2, runRefP l t = (o, (g1, g2)) := ⟨_, _, _, rfl⟩
      rw [hC] at HA3 HR2 ⊢
      dsimp only at HA3 HR2 ⊢
      have hba := ((Below.refl w3.heap.size w3).alloc (Nat.le_refl _) (.cells #[.slice A3 n3 c3, .int .i64 s3, .int .i64 p3] 25)).alloc (by simp) (.cells #[.int .i64 g1, .int .i64 g2] 28)
      have hbb := hb3.trans (hba.mono hb3.size)
      have HX3 := Lib.hid (Blk.below HX2.out hbb HX2.out.lt)
      have HB3 := Lib.hid (HB2.out.trans (hbb.mono HB2.out.size))
      have HF3 := Lib.hid (show Blk ((w3.alloc (.cells #[.slice A3 n3 c3, .int .i64 s3, .int .i64 p3] 25)).alloc (.cells #[.int .i64 g1, .int .i64 g2] 28)) (w3.heap.size + 1) 28 #[.int .i64 g1, .int .i64 g2] by
        have := Blk.new (w3.alloc (.cells #[.slice A3 n3 c3, .int .i64 s3, .int .i64 p3] 25)) 28 #[.int .i64 g1, .int .i64 g2]
        simpa using this)
      have hw3 : w.heap.size < w3.heap.size := Nat.lt_of_lt_of_le HX2.out.lt hb3.size
      clear hb3 hba hbb hC HX2 HB2 HRN q0 q1 x0 x1 p0 p1 hne1 hne2 HF2
      go_upto_region 8 with fail
      generalize (w3.alloc (.cells #[.slice A3 n3 c3, .int .i64 s3, .int .i64 p3] 25)).alloc (.cells #[.int .i64 g1, .int .i64 g2] 28) = W3 at *
      have q0 := HF3.out.cell 0
      have q1 := HF3.out.cell 1
      have x0 := HX3.out.cell 0
      have x1 := HX3.out.cell 1
      have p0 := HX3.out.frozen 0
      have p1 := HX3.out.frozen 1
      have hne1 : ¬ w.heap.size = w3.heap.size + 1 := by omega
      have hne2 : ¬ w3.heap.size + 1 = w.heap.size := by omega
      by_cases hz : g1 = 0
      · subst hz
        have HA4 := Lib.hid (HA3.out.trans (if_neg (fun h => h rfl)))
        have HOK := Lib.hid (HR2.out rfl)
        have HSU := Lib.hid (ref9_sure X Ar nr cr l W3 (HL.out W3 HB3.out) hnr)
        clear HA3 HR2
        go_wp2_with fail
        refine HSU.out.mono ?_
        rintro e w4 ⟨rfl, hb4⟩
        have HX4 := Lib.hid (Blk.below HX3.out hb4 HX3.out.lt)
        have HB4 := Lib.hid (HB3.out.trans (hb4.mono HB3.out.size))
        clear hb4 HX3 HB3 HSU q0 q1 x0 x1 p0 p1 hne1 hne2 HF3
        cases hsu : sureP l
        · have HG := Lib.hid (HA4.out.trans (if_pos hsu))
          have x0 := HX4.out.cell 0
          have x1 := HX4.out.cell 1
          have p0 := HX4.out.frozen 0
          have p1 := HX4.out.frozen 1
          have hbf := (HB4.out.setCell (p := ⟨w.heap.size, 0, none⟩) (by simp) (.int .i64 8)).setCell (p := ⟨w.heap.size, 1, none⟩) (by simp) (.int .i64 0)
          have HBF := Lib.hid hbf
          clear hbf hsu HA4
          go_wp2_with fail
          rw [HG.out]
          exact bodyPost_ret (v := .tuple #[.slice none 0 0, .agg #[.int .i64 8, .int .i64 0]]) (by simp [results, Try.results16, go_sem, x0, x1]) rfl ⟨AlPost.nil _ _ _ _, HBF.out⟩
        · have HG := Lib.hid (HA4.out.trans (if_neg (by rw [hsu]; decide)))
          have HSR := Lib.hid hsu
          have HRA := Lib.hid (right_all HK2.out.1)
          have hr200 : l.length ≤ 200 := (right_rules HK2.out.1).size
          have ht4 : t.length ≤ 4000 := (textP_len HK2.out.2).1
          have hnt4 : nt ≤ 4000 := by have := HNT.out; omega
          obtain ⟨lim, hlim⟩ : ∃ lim : Nat, lim = 8 * t.length + 40 := ⟨_, rfl⟩
          have HTP := Lib.hid (show traceP l t = traceGo l lim [] t by rw [hlim]; rfl)
          have HOK2 := Lib.hid (show (runGo l lim [] t 0 0).2 = 0 by rw [hlim]; exact HOK.out)
          have hlim1 : lim ≤ 32040 := by omega
          have hw4 := HX4.out.lt
          clear hsu HA4 HK2 HOK hlim
          go_upto_region 13 with fail
          have HOE := Lib.hid (own_empty w4 21 1 w4.heap.size w4.heap.size rfl (Nat.le_refl _))
          have hba := (Below.refl w4.heap.size w4).alloc (Nat.le_refl _) (.cells #[] 21)
          have HBA := Lib.hid hba
          have HR1 := Lib.hid (HT.out _ (HB4.out.trans (hba.mono HB4.out.size)))
          clear hba
          go_wp2_with (at_builtin; refine wpList_append_rd _ rfl (.tmp 47) (.tmp 48) 23 rfl w4.heap.size 21 i0 _ 1 4 Try.underlying23 hi0 y0' y1' y2' rfl (by decide) _ _ _ rfl HOE.out _ At nt ct (runeCells t) rfl HR1.out (runeCells_one _) (by simp only [maxLen]; omega) (by omega) (by simp) ?_)
          intro v9 W5 happ
          obtain ⟨b9, c9, rfl, hc9, hb9, _⟩ := app_blk happ (g := w4.heap.size) rfl (Nat.le_refl _) (by simp)
          have hbw4 := HBA.out.trans (happ.below (by simp) HOE.out)
          have ho9 : W5.ownsRow w4.heap.size 21 1 (.slice (some ⟨b9, 0, none⟩) nt c9) nt (runeCells t) := by have := happ.own; simpa using this
          have HNW := Lib.hid (RdX.of_own (X := NowX (.slice none 0 0)) ho9 (fun b hb => by simp [NowX, Value.ownBlock]))
          have HX5 := Lib.hid (Blk.below HX4.out hbw4 hw4)
          have HB5 := Lib.hid (HB4.out.trans (hbw4.mono HB4.out.size))
          have hw5 := HX5.out.lt
          have hc9' : nt ≤ c9 := by omega
          have HRU := Lib.hid (HL.out W5 HB5.out)
          clear happ hbw4 ho9 hc9 HOE HR1 HBA HX4 HB4
          go_wp2_with fail
          go_loopw [11, 12, 13, 14] (RlRel l t lim W5) (fun o _ _ _ _ => lim - sliceLen o)
          case atStart => exact ⟨[], [], t, lim, 0, 0, 0, b9, 0, c9, rfl, rfl, by omega, rfl, by simpa using ht4, rfl, rfl, by rw [List.length_nil, Nat.zero_add, HNT.out], by rw [List.length_nil, Nat.zero_add, HNT.out]; exact hc9', World.ownsRow_nil _ _ _ _, by rw [List.length_nil, Nat.zero_add, HNT.out]; exact HNW.out, Below.refl _ _⟩
          case round =>
            obtain ⟨tr, done, rest, left, s, p, m, b, o, c, htr, hgo, hml, htl, h4, rfl, rfl, rfl, hc, ho, hnow, hb⟩ := hrel
            obtain ⟨nd, hnd⟩ : ∃ nd, done.length = nd := ⟨_, rfl⟩
            obtain ⟨nz, hnz⟩ : ∃ nz, rest.length = nz := ⟨_, rfl⟩
            have HDL := Lib.hid hnd
            have HRL := Lib.hid hnz
            rw [hnd, hnz] at h4 hc hnow ⊢
            have hF := lenGo_le HRA.out tr
            rw [htl] at hF
            obtain ⟨F, hFe⟩ : ∃ F, lenGo l tr = F := ⟨_, rfl⟩
            have HFE := Lib.hid hFe
            rw [hFe] at hF ⊢
            have HTRC := Lib.hid htr
            have HGO := Lib.hid hgo
            have HTL := Lib.hid htl
            have hml2 : m + left ≤ lim := by omega
            have HML := Lib.hid hml
            have HB := Lib.hid hb
            have HO := Lib.hid ho
            have HOB := Lib.hid (show ∀ q, u11.ownBlock = some q → q < wr.heap.size from fun q hq => (own_lt ho hq).2)
            have HNW5 := Lib.hid (show RdX wr (fun q => u11.ownBlock ≠ some q ∧ q < wr.heap.size) 1 (some ⟨b, o, none⟩) (nd + nz) (runeCells (done ++ rest)) from hnow.keep (fun q hq hl => ⟨rfl, ⟨hq, hl⟩, hl⟩))
            have hz5 := hb.size
            obtain ⟨Ao, co, rfl, hco⟩ := own_form ho
            clear hnd hnz hFe htr hgo htl hml hb ho hnow
            by_cases hlt : 0 < nz
            · obtain ⟨z, Z, hZ⟩ : ∃ z Z, rest = z :: Z := by
                cases rest with
                | nil => have := HRL.out; simp at this; omega
                | cons z Z => exact ⟨z, Z, rfl⟩
              have HZ := Lib.hid hZ
              have hleft : ∃ L, left = L + 1 := by
                cases left with
                | zero =>
                  have h := HOK2.out
                  rw [HGO.out, runGo_zero l done s p (by rw [hZ]; simp)] at h
                  cases h
                | succ L => exact ⟨L, rfl⟩
              obtain ⟨L, rfl⟩ := hleft
              clear hZ
              have HWH := Lib.hid (ref8_which X l Ar (some ⟨b, o, none⟩) nr cr (nd + nz) c (done ++ rest) nd wr hnr HRA.out (HRU.out.keep (Keeps.any HB.out) (fun _ _ => RuleC.keep (Keeps.any HB.out))) (by omega) (by omega) HNW5.out.of)
              go_wp2_with fail
              refine HWH.out.mono ?_
              rintro e w5 ⟨rfl, hb5⟩
              have HB5' := Lib.hid (HB.out.trans (hb5.mono hz5))
              have HO5 := Lib.hid (own_below HO.out hb5)
              have HNW6 := Lib.hid (HNW5.out.keep (Keeps.any hb5))
              have hz6 := hb5.size
              clear hb5 HWH
              have hwr : whichP l (done ++ rest) nd = whichP l (done ++ z :: Z) done.length := by rw [HZ.out, HDL.out]
              rw [hwr]
              clear hwr
              rcases whichP_range l (done ++ z :: Z) done.length with hwh | ⟨k, r, hwh, hk, hhere⟩
              · have HTR2 := Lib.hid (show traceGo l lim [] t = (tr ++ [((nd : Int), -1)]) ++ traceGo l L (done ++ [z]) Z by rw [HTRC.out, HZ.out, traceGo_none hwh, HDL.out, List.append_assoc]; rfl)
                have HGO2 := Lib.hid (show runGo l lim [] t 0 0 = runGo l L (done ++ [z]) Z (s + 1) p by rw [HGO.out, HZ.out, runGo_none hwh])
                have HLE := Lib.hid (link_none l F nd)
                rw [hwh]
                clear hwh
                have HK6 := Lib.hid (Blk.new w5 41 #[.int .i64 F, .int .i64 ((F : Int) + 1), .int .i64 nd, .int .i64 ((nd : Int) + 1), .int .i64 (-1)])
                have hba := (Below.refl w5.heap.size w5).alloc (Nat.le_refl _) (.cells #[.int .i64 F, .int .i64 ((F : Int) + 1), .int .i64 nd, .int .i64 ((nd : Int) + 1), .int .i64 (-1)] 41)
                have HB6 := Lib.hid (HB5'.out.trans (hba.mono HB5'.out.size))
                have HO6 := Lib.hid (own_below HO5.out hba)
                have HNW7 := Lib.hid (HNW6.out.keep (Keeps.any hba))
                clear hba
                go_upto_region 18 with fail
                generalize w5.alloc (.cells #[.int .i64 F, .int .i64 ((F : Int) + 1), .int .i64 nd, .int .i64 ((nd : Int) + 1), .int .i64 (-1)] 41) = W6 at *
                have f4 := HK6.out.frozen 4
                have c4 := HK6.out.cell 4
                go_upto_region 23 with fail
                have HK7 := Lib.hid (show Blk (W6.setCell ⟨w5.heap.size, 4, none⟩ (.int .i64 (-1))) w5.heap.size 41 #[.int .i64 F, .int .i64 ((F : Int) + 1), .int .i64 nd, .int .i64 ((nd : Int) + 1), .int .i64 (-1)] from HK6.out.put 4 (.int .i64 (-1)))
                have HB7 := Lib.hid (HB6.out.setCell (p := ⟨w5.heap.size, 4, none⟩) (by simp only; omega) (.int .i64 (-1)))
                have HO7 := Lib.hid (own_belowB HO6.out (fun q hq => Below.heap_setCell W6 ⟨w5.heap.size, 4, none⟩ (.int .i64 (-1)) q (by have := HOB.out q hq; simp only; omega)))
                have HNW8 := Lib.hid (HNW7.out.keep (Keeps.setCell (p := ⟨w5.heap.size, 4, none⟩) (.int .i64 (-1)) (fun q hq => by have := hq.2; simp only; omega) (fun _ h _ => h)))
                generalize W6.setCell ⟨w5.heap.size, 4, none⟩ (.int .i64 (-1)) = W7 at *
                clear f4 c4 HK6 HB6 HO6 HNW6 HNW7
                have y0 := HK7.out.cell 0
                have y1 := HK7.out.cell 1
                have y2 := HK7.out.cell 2
                have y3 := HK7.out.cell 3
                have y4 := HK7.out.cell 4
                have HN := Lib.hid (Rd.new W7 41 5 1 [.int .i64 F, .int .i64 ((F : Int) + 1), .int .i64 nd, .int .i64 ((nd : Int) + 1), .int .i64 (-1)] rfl)
                have H1 := Lib.hid (show ∀ u ∈ ([.int .i64 F, .int .i64 ((F : Int) + 1), .int .i64 nd, .int .i64 ((nd : Int) + 1), .int .i64 (-1)] : List Value), u.oneCell' = true by intro u hu; simp at hu; rcases hu with rfl | rfl | rfl | rfl | rfl <;> rfl)
                have HO6 := Lib.hid (World.ownsRow.alloc HO7.out (.cells #[.int .i64 F, .int .i64 ((F : Int) + 1), .int .i64 nd, .int .i64 ((nd : Int) + 1), .int .i64 (-1)] 41))
                have HB6 := Lib.hid (HB7.out.alloc HB7.out.size (.cells #[.int .i64 F, .int .i64 ((F : Int) + 1), .int .i64 nd, .int .i64 ((nd : Int) + 1), .int .i64 (-1)] 41))
                have HK6 := Lib.hid (HK7.out.alloc (.cells #[.int .i64 F, .int .i64 ((F : Int) + 1), .int .i64 nd, .int .i64 ((nd : Int) + 1), .int .i64 (-1)] 41))
                have HW6 := Lib.hid (HNW8.out.keep (Keeps.alloc (.cells #[.int .i64 F, .int .i64 ((F : Int) + 1), .int .i64 nd, .int .i64 ((nd : Int) + 1), .int .i64 (-1)] 41) (fun _ h _ => h)))
                go_wp2_with (at_builtin; refine wpList_append_rd _ rfl (.tmp 94) (.tmp 96) 37 rfl W5.heap.size 41 i1 _ 5 40 Try.underlying37 hi1 z0 z1 z2 rfl (by decide) _ m _ rfl HO6.out _ (some ⟨W7.heap.size, 0, none⟩) 1 1 [.int .i64 F, .int .i64 ((F : Int) + 1), .int .i64 nd, .int .i64 ((nd : Int) + 1), .int .i64 (-1)] rfl HN.out H1.out (by simp only [maxLen]; omega) (by omega) HB6.out.size ?_)
                intro v' w9 happ
                obtain ⟨A9, d9, rfl, _⟩ := own_form happ.own
                have HB9 := Lib.hid (HB6.out.trans (happ.below HB6.out.size HO6.out))
                have HK9 := Lib.hid (show Blk w9 w5.heap.size 41 #[.int .i64 F, .int .i64 ((F : Int) + 1), .int .i64 nd, .int .i64 ((nd : Int) + 1), .int .i64 (-1)] from (happ.2.1.block _ HK6.out.lt (fun e => by have := HOB.out _ e.symm; omega)).trans HK6.out)
                have HO9 := Lib.hid happ.own
                have HW9 := Lib.hid (HW6.out.keep (X' := NowX (.slice A9 (m + 1) d9)) (Keeps.app happ (fun b hb => hb.1) (fun b hb hl => by
                  unfold NowX
                  rcases happ.2.2 with e | e
                  · rw [e]; exact hb.1
                  · rw [e]
                    intro e2
                    injection e2 with e2
                    omega)))
                clear happ y0 y1 y2 y3 y4 HN H1 HO6 HB6 HK6 HW6
                have y1 := HK9.out.cell 1
                have y3 := HK9.out.cell 3
                go_wp2_with fail
                go_quiet (fail)
                go_wp2_with fail
                have hN1 : (done ++ [z]).length = nd + 1 := by rw [List.length_append, HDL.out]; rfl
                have hZ1 : Z.length + 1 = nz := by rw [← HRL.out, HZ.out]; rfl
                have hS1 : (done ++ [z]).length + Z.length = nd + nz := by omega
                refine ⟨⟨tr ++ [((nd : Int), -1)], done ++ [z], Z, L, s + 1, p, m + 1, b, o, c, HTR2.out, HGO2.out, by have := HML.out; omega, by rw [List.length_append, HTL.out]; rfl, by omega, by rw [hN1]; go_num, by rw [lenGo_append, HFE.out, lenGo, HLE.out.2, lenGo]; go_num, by rw [hS1], by omega, ?_, ?_, below_drewN HB9.out nq⟩, by simp only [sliceLen]; omega⟩
                · have h9 := HO9.out
                  rw [linksGo_append, HFE.out, Nat.zero_add, linkCells_append, linksGo, HLE.out.1]
                  exact h9
                · rw [hS1, List.append_assoc]
                  have h9 := HW9.out
                  rw [HZ.out] at h9
                  exact h9
              · have hfit := here_fits hhere
                have hm : ¬ 4000 < done.length + (r.target ++ (z :: Z).drop r.source.length).length := by
                  intro hm
                  have h := HOK2.out
                  rw [HGO.out, HZ.out, runGo_much hwh hk hm] at h
                  cases h
                have hcu := sure_cur HSR.out hk
                have HTR2 := Lib.hid (show traceGo l lim [] t = (tr ++ [((nd : Int), (k : Int))]) ++ traceGo l L (done ++ r.target) ((z :: Z).drop r.source.length) by
                  rw [HTRC.out, HZ.out, traceGo_rule hwh hk, HDL.out, List.append_assoc, List.take_left' hcu.symm, List.drop_left' hcu.symm]; rfl)
                have HGO2 := Lib.hid (show runGo l lim [] t 0 0 = runGo l L (done ++ r.target) ((z :: Z).drop r.source.length) (s + 1) (p + 1) by
                  rw [HGO.out, HZ.out, runGo_rule hwh hk hm, List.take_left' hcu.symm, List.drop_left' hcu.symm])
                have HLE := Lib.hid (link_rule hk F nd)
                rw [hwh]
                have hkn : k < nr := by have := (List.getElem?_eq_some_iff.1 hk).1; have := HNR.out; omega
                obtain ⟨rb, ro, A1, A2, A3, A4, n1, c1, n2, c2, n3, c3', n4, c4, rfl, _, hbb, ⟨d0, d1, d2, d3, d4, d5, d6⟩, _, s2', _, s4', _⟩ := rule_at HRU.out hk
                have hn2 : r.source.length = n2 := s2'.list.len
                have hn4 : r.target.length = n4 := by have := s4'.1; rw [runeCells_length] at this; omega
                have hl2 : n2 ≤ 20 := by rw [← hn2]; exact ((HRA.out r (List.mem_of_getElem? hk)).sets r.source (by simp [sidesOf])).1
                have hl4 : n4 ≤ 20 := by rw [← hn4]; exact (HRA.out r (List.mem_of_getElem? hk)).tgt.1
                have HN2 := Lib.hid hn2
                have HN4 := Lib.hid hn4
                have hsz : n2 ≤ nz := by rw [← hn2, ← HRL.out, HZ.out]; exact hfit
                have hm4 : nd + (n4 + (nz - n2)) ≤ 4000 := by
                  rw [List.length_append, List.length_drop, ← HZ.out, HRL.out, HDL.out, hn2, hn4] at hm
                  omega
                have hpos : 0 < n2 := by
                  rw [← hn2]
                  exact List.length_pos_iff.2 (HRA.out r (List.mem_of_getElem? hk)).src
                have H4 := Lib.hid s4'
                clear hwh hk hhere hm hcu hn2 hn4 s2' s4' hfit
                have HK6 := Lib.hid (Blk.new w5 41 #[.int .i64 F, .int .i64 ((F : Int) + 1), .int .i64 nd, .int .i64 ((nd : Int) + 1), .int .i64 (k : Int)])
                have hba := (Below.refl w5.heap.size w5).alloc (Nat.le_refl _) (.cells #[.int .i64 F, .int .i64 ((F : Int) + 1), .int .i64 nd, .int .i64 ((nd : Int) + 1), .int .i64 (k : Int)] 41)
                have HB6 := Lib.hid (HB5'.out.trans (hba.mono HB5'.out.size))
                have HO6 := Lib.hid (own_below HO5.out hba)
                have HNW7 := Lib.hid (HNW6.out.keep (Keeps.any hba))
                clear hba
                go_upto_region 18 with fail
                generalize w5.alloc (.cells #[.int .i64 F, .int .i64 ((F : Int) + 1), .int .i64 nd, .int .i64 ((nd : Int) + 1), .int .i64 (k : Int)] 41) = W6 at *
                have f1 := HK6.out.frozen 1
                have f3 := HK6.out.frozen 3
                have k1' := HK6.out.cell 1
                have k3' := HK6.out.cell 3
                have e3 : W6.cell? ⟨rb, ro + k * 7 + 3, none⟩ = some (.slice A2 n2 c2) := (HB6.out.cell (p := ⟨rb, ro + k * 7 + 3, none⟩) hbb).trans d3
                have e5 : W6.cell? ⟨rb, ro + k * 7 + 5, none⟩ = some (.slice A4 n4 c4) := (HB6.out.cell (p := ⟨rb, ro + k * 7 + 5, none⟩) hbb).trans d5
                have hn1 : ¬ rb = w5.heap.size := by omega
                have hn1' : ¬ w5.heap.size = rb := by omega
                go_upto_region 21 with fail
                have HK7 := Lib.hid (show Blk ((W6.setCell ⟨w5.heap.size, 1, none⟩ (.int .i64 ((F : Int) + (n2 : Int)))).setCell ⟨w5.heap.size, 3, none⟩ (.int .i64 ((nd : Int) + (n4 : Int)))) w5.heap.size 41 #[.int .i64 F, .int .i64 ((F : Int) + (n2 : Int)), .int .i64 nd, .int .i64 ((nd : Int) + (n4 : Int)), .int .i64 (k : Int)] from (HK6.out.put 1 (.int .i64 ((F : Int) + (n2 : Int)))).put 3 (.int .i64 ((nd : Int) + (n4 : Int))))
                have HB7 := Lib.hid ((HB6.out.setCell (p := ⟨w5.heap.size, 1, none⟩) (by simp only; omega) (.int .i64 ((F : Int) + (n2 : Int)))).setCell (p := ⟨w5.heap.size, 3, none⟩) (by simp only; omega) (.int .i64 ((nd : Int) + (n4 : Int))))
                have HO7 := Lib.hid (own_belowB (own_belowB HO6.out (fun q hq => Below.heap_setCell W6 ⟨w5.heap.size, 1, none⟩ (.int .i64 ((F : Int) + (n2 : Int))) q (by have := HOB.out q hq; simp only; omega))) (fun q hq => Below.heap_setCell _ ⟨w5.heap.size, 3, none⟩ (.int .i64 ((nd : Int) + (n4 : Int))) q (by have := HOB.out q hq; simp only; omega)))
                have HNW8 := Lib.hid ((HNW7.out.keep (Keeps.setCell (p := ⟨w5.heap.size, 1, none⟩) (.int .i64 ((F : Int) + (n2 : Int))) (fun q hq => by have := hq.2; simp only; omega) (fun _ h _ => h))).keep (X' := fun q => (Value.slice Ao m co).ownBlock ≠ some q ∧ q < wr.heap.size) (Keeps.setCell (p := ⟨w5.heap.size, 3, none⟩) (.int .i64 ((nd : Int) + (n4 : Int))) (fun q hq => by have := hq.2; simp only; omega) (fun _ h _ => h)))
                generalize (W6.setCell ⟨w5.heap.size, 1, none⟩ (.int .i64 ((F : Int) + (n2 : Int)))).setCell ⟨w5.heap.size, 3, none⟩ (.int .i64 ((nd : Int) + (n4 : Int))) = W7 at *
                clear f1 f3 k1' k3' e3 e5 HK6 HB6 HO6 HNW6 HNW7
                have g0 := (HB7.out.cell (p := ⟨rb, ro + k * 7, none⟩) hbb).trans d0
                have g1 := (HB7.out.cell (p := ⟨rb, ro + k * 7 + 1, none⟩) hbb).trans d1
                have g2 := (HB7.out.cell (p := ⟨rb, ro + k * 7 + 2, none⟩) hbb).trans d2
                have g3 := (HB7.out.cell (p := ⟨rb, ro + k * 7 + 3, none⟩) hbb).trans d3
                have g4 := (HB7.out.cell (p := ⟨rb, ro + k * 7 + 4, none⟩) hbb).trans d4
                have g5 := (HB7.out.cell (p := ⟨rb, ro + k * 7 + 5, none⟩) hbb).trans d5
                have g6 := (HB7.out.cell (p := ⟨rb, ro + k * 7 + 6, none⟩) hbb).trans d6
                have HPU := Lib.hid (ref7_put X r A1 A2 A3 A4 n1 c1 n2 c2 n3 c3' n4 c4 (nd + nz) c b o nd (done ++ rest) W7 (H4.out.keep (Keeps.any HB7.out)) (by omega) (by omega) (by omega) hc (by omega) HNW8.out.of)
                have hw7 := HK7.out.lt
                clear d0 d1 d2 d3 d4 d5 d6
                go_wp2_with fail
                refine HPU.out.mono ?_
                rintro e w8 ⟨⟨b', N, c', rfl, hNc, hNe, hrd⟩, hb8⟩
                have HK8 := Lib.hid (Blk.below HK7.out hb8 HK7.out.lt)
                have HB8 := Lib.hid (HB7.out.trans (hb8.mono HB7.out.size))
                have HO8 := Lib.hid (own_below HO7.out hb8)
                have HNE := Lib.hid hNe
                have HNW9 := Lib.hid (show RdX w8 (fun q => (Value.slice Ao m co).ownBlock ≠ some q ∧ q < w8.heap.size) 1 (some ⟨b', 0, none⟩) N (runeCells ((done ++ r.target) ++ (z :: Z).drop r.source.length)) by
                  have e1 : (done ++ rest).take nd ++ r.target ++ (done ++ rest).drop (nd + n2) = (done ++ r.target) ++ (z :: Z).drop r.source.length := by
                    rw [← HDL.out, List.take_left, drop_past, HN2.out, HZ.out]
                  rw [← e1]
                  exact hrd.keep (fun q hq hl => ⟨rfl, ⟨fun e => by have := HOB.out q e; omega, hl⟩, hl⟩))
                have hz8 := hb8.size
                clear hb8 hrd hNe HPU g0 g1 g2 g3 g4 g5 g6
                go_upto_region 23 with fail
                have y0 := HK8.out.cell 0
                have y1 := HK8.out.cell 1
                have y2 := HK8.out.cell 2
                have y3 := HK8.out.cell 3
                have y4 := HK8.out.cell 4
                have HN := Lib.hid (Rd.new w8 41 5 1 [.int .i64 F, .int .i64 ((F : Int) + (n2 : Int)), .int .i64 nd, .int .i64 ((nd : Int) + (n4 : Int)), .int .i64 (k : Int)] rfl)
                have H1 := Lib.hid (show ∀ u ∈ ([.int .i64 F, .int .i64 ((F : Int) + (n2 : Int)), .int .i64 nd, .int .i64 ((nd : Int) + (n4 : Int)), .int .i64 (k : Int)] : List Value), u.oneCell' = true by intro u hu; simp at hu; rcases hu with rfl | rfl | rfl | rfl | rfl <;> rfl)
                have HO6 := Lib.hid (World.ownsRow.alloc HO8.out (.cells #[.int .i64 F, .int .i64 ((F : Int) + (n2 : Int)), .int .i64 nd, .int .i64 ((nd : Int) + (n4 : Int)), .int .i64 (k : Int)] 41))
                have HB6 := Lib.hid (HB8.out.alloc HB8.out.size (.cells #[.int .i64 F, .int .i64 ((F : Int) + (n2 : Int)), .int .i64 nd, .int .i64 ((nd : Int) + (n4 : Int)), .int .i64 (k : Int)] 41))
                have HK6 := Lib.hid (HK8.out.alloc (.cells #[.int .i64 F, .int .i64 ((F : Int) + (n2 : Int)), .int .i64 nd, .int .i64 ((nd : Int) + (n4 : Int)), .int .i64 (k : Int)] 41))
                have HW6 := Lib.hid (HNW9.out.keep (Keeps.alloc (.cells #[.int .i64 F, .int .i64 ((F : Int) + (n2 : Int)), .int .i64 nd, .int .i64 ((nd : Int) + (n4 : Int)), .int .i64 (k : Int)] 41) (fun _ h _ => h)))
                go_wp2_with (at_builtin; refine wpList_append_rd _ rfl (.tmp 94) (.tmp 96) 37 rfl W5.heap.size 41 i1 _ 5 40 Try.underlying37 hi1 z0 z1 z2 rfl (by decide) _ m _ rfl HO6.out _ (some ⟨w8.heap.size, 0, none⟩) 1 1 [.int .i64 F, .int .i64 ((F : Int) + (n2 : Int)), .int .i64 nd, .int .i64 ((nd : Int) + (n4 : Int)), .int .i64 (k : Int)] rfl HN.out H1.out (by simp only [maxLen]; omega) (by omega) HB6.out.size ?_)
                intro v' w9 happ
                obtain ⟨A9, d9, rfl, _⟩ := own_form happ.own
                have HB9 := Lib.hid (HB6.out.trans (happ.below HB6.out.size HO6.out))
                have HK9 := Lib.hid (show Blk w9 w5.heap.size 41 #[.int .i64 F, .int .i64 ((F : Int) + (n2 : Int)), .int .i64 nd, .int .i64 ((nd : Int) + (n4 : Int)), .int .i64 (k : Int)] from (happ.2.1.block _ HK6.out.lt (fun e => by have := HOB.out _ e.symm; omega)).trans HK6.out)
                have HO9 := Lib.hid happ.own
                have HW9 := Lib.hid (HW6.out.keep (X' := NowX (.slice A9 (m + 1) d9)) (Keeps.app happ (fun b hb => hb.1) (fun b hb hl => by
                  unfold NowX
                  rcases happ.2.2 with e | e
                  · rw [e]; exact hb.1
                  · rw [e]
                    intro e2
                    injection e2 with e2
                    omega)))
                clear happ y0 y1 y2 y3 y4 HN H1 HO6 HB6 HK6 HW6
                have y1 := HK9.out.cell 1
                have y3 := HK9.out.cell 3
                go_wp2_with fail
                go_quiet (fail)
                go_wp2_with fail
                have hN1 : (done ++ r.target).length = nd + n4 := by rw [List.length_append, HDL.out, HN4.out]
                have hZ1 : ((z :: Z).drop r.source.length).length = nz - n2 := by rw [List.length_drop, ← HZ.out, HRL.out, HN2.out]
                have hS1 : (done ++ r.target).length + ((z :: Z).drop r.source.length).length = N := by have := HNE.out; omega
                have hNE := HNE.out
                refine ⟨⟨tr ++ [((nd : Int), (k : Int))], done ++ r.target, (z :: Z).drop r.source.length, L, s + 1, p + 1, m + 1, b', 0, c', HTR2.out, HGO2.out, by have := HML.out; omega, by rw [List.length_append, HTL.out]; rfl, by omega, by rw [hN1]; go_num, by rw [lenGo_append, HFE.out, lenGo, HLE.out.2, HN2.out, lenGo]; go_num, by rw [hS1], by omega, ?_, ?_, below_drewN HB9.out nq⟩, by simp only [sliceLen]; omega⟩
                · have h9 := HO9.out
                  rw [linksGo_append, HFE.out, Nat.zero_add, linkCells_append, linksGo, HLE.out.1, HN2.out, HN4.out]
                  exact h9
                · rw [hS1]
                  exact HW9.out
            · have h0 : rest = [] := List.eq_nil_of_length_eq_zero (by rw [HRL.out]; omega)
              have HFIN := Lib.hid (show traceP l t = tr by rw [HTP.out, HTRC.out, h0, traceGo_nil, List.append_nil])
              obtain rfl : nz = 0 := by omega
              have HX9 := Lib.hid (Blk.below HX5.out HB.out HX5.out.lt)
              have x0 := HX9.out.cell 0
              have x1 := HX9.out.cell 1
              have p0 := HX9.out.frozen 0
              have p1 := HX9.out.frozen 1
              have HB9 := Lib.hid (HB5.out.trans (HB.out.mono HB5.out.size))
              have hbf := (HB9.out.setCell (p := ⟨w.heap.size, 0, none⟩) (by simp) (.int .i64 0)).setCell (p := ⟨w.heap.size, 1, none⟩) (by simp) (.int .i64 0)
              have h5 := own_set_low (own_set_low HO.out (p := ⟨w.heap.size, 0, none⟩) (by simp only; omega) (.int .i64 0)) (p := ⟨w.heap.size, 1, none⟩) (by simp only; omega) (.int .i64 0)
              have HR := Lib.hid (show RdX ((wr.setCell ⟨w.heap.size, 0, none⟩ (.int .i64 0)).setCell ⟨w.heap.size, 1, none⟩ (.int .i64 0)) (fun b => w.heap.size ≤ b) 5 Ao m (linkCells (linksGo l 0 (traceP l t))) by
                rw [HFIN.out]
                exact RdX.of_own h5 (fun b hb => Nat.le_trans (Nat.le_of_lt hw5) (own_lt h5 hb).1))
              have HBF := Lib.hid hbf
              clear hbf h5 h0
              go_wp2_with fail
              rw [HG.out]
              exact bodyPost_ret (v := .tuple #[.slice Ao m co, .agg #[.int .i64 0, .int .i64 0]]) (by simp [results, Try.results16, go_sem, x0, x1]) rfl ⟨⟨Ao, m, co, rfl, HR.out, by omega, hco⟩, HBF.out⟩
      · have HA := Lib.hid (HA3.out.trans (if_pos hz))
        have hbf := ((HB3.out.setCell (p := ⟨w.heap.size, 0, none⟩) (by simp) (.int .i64 g1)).setCell (p := ⟨w.heap.size, 1, none⟩) (by simp) (.int .i64 g2)).drew
        have HBF := Lib.hid hbf
        clear hbf
        go_wp2_with fail
        go_region
        all_goals
          go_wp2_with fail
          rw [HA.out]
          exact bodyPost_ret (v := .tuple #[.slice none 0 0, .agg #[.int .i64 g1, .int .i64 g2]]) (by simp [results, Try.results16, go_sem, x0, x1]) rfl ⟨AlPost.nil _ _ _ _, HBF.out⟩
    · have HA := Lib.hid (HA2.out.trans (if_pos hz))
      have hbf := ((HB2.out.setCell (p := ⟨w.heap.size, 0, none⟩) (by simp) (.int .i64 k1)).setCell (p := ⟨w.heap.size, 1, none⟩) (by simp) (.int .i64 k2)).drew
      have HBF := Lib.hid hbf
      clear hbf
      go_wp2_with fail
      go_region
      all_goals
        go_wp2_with fail
        rw [HA.out]
        exact bodyPost_ret (v := .tuple #[.slice none 0 0, .agg #[.int .i64 k1, .int .i64 k2]]) (by simp [results, Try.results16, go_sem, x0, x1]) rfl ⟨AlPost.nil _ _ _ _, HBF.out⟩
  · have HA := Lib.hid (HAL.out.trans (if_pos hz))
    have hbf := ((HB1.out.setCell (p := ⟨w.heap.size, 0, none⟩) (by simp) (.int .i64 f1)).setCell (p := ⟨w.heap.size, 1, none⟩) (by simp) (.int .i64 f2)).drew
    have HBF := Lib.hid hbf
    clear hbf
    go_wp2_with fail
    go_region
    all_goals
      go_wp2_with fail
      rw [HA.out]
      exact bodyPost_ret (v := .tuple #[.slice none 0 0, .agg #[.int .i64 f1, .int .i64 f2]]) (by simp [results, Try.results16, go_sem, x0, x1]) rfl ⟨AlPost.nil _ _ _ _, HBF.out⟩

end Go.Proofs.Ytfmebbnccjaadaa
