/- The walk of align.Links: it tells alignP. -/
import Derived.Test.YtfmebbnccjaadaaSure
import Derived.Test.YtfmebbnccjaadaaVmTrace
import Derived.Deep.RegionHeld3
namespace Go.Proofs.Ytfmebbnccjaadaa
open Go.RowKit

theorem infoLink : (Try.prog.info? 41).map (fun i => (i.zero, i.size, i.bytes)) = some (some (.agg #[.int .i64 0, .int .i64 0, .int .i64 0, .int .i64 0, .int .i64 0]), 5, 40) := by kernel_rfl
def AlPost (lo : Nat) (w' : World) (o : List LinkD × (Int × Int)) (e : Ending) : Prop :=
  ∃ (A : Option Addr) (n c : Nat), e = .returned (.tuple #[.slice A n c, .agg #[.int .i64 o.2.1, .int .i64 o.2.2]]) ∧ RdX w' (fun b => lo ≤ b) 5 A n (linkCells o.1) ∧ n ≤ 100000 ∧ n ≤ c
theorem AlPost.nil (lo : Nat) (w' : World) (a b : Int) : AlPost lo w' ([], (a, b)) (.returned (.tuple #[.slice none 0 0, .agg #[.int .i64 a, .int .i64 b]])) :=
  ⟨none, 0, 0, rfl, ⟨rfl, fun h => absurd h (Nat.lt_irrefl 0)⟩, Nat.zero_le _, Nat.le_refl _⟩
def AlRel (l : List RuleD) (tr : List (Int × Int)) (n : Nat) (W3 : World) (out src i : Value) (wr : World) : Prop :=
  ∃ k : Nat, k ≤ n ∧ i = .int .i64 k ∧ src = .int .i64 (lenGo l (tr.take k)) ∧ wr.ownsRow W3.heap.size 41 5 out k (linkCells (linksGo l 0 (tr.take k))) ∧ Below W3.heap.size W3 wr
theorem shot_at {tr : List (Int × Int)} {k : Nat} {a q : Int} (h : tr[k]? = some (a, q)) : (shotCells tr)[k * 2]? = some (.int .i64 a) ∧ (shotCells tr)[k * 2 + 1]? = some (.int .i64 q) := by
  induction tr generalizing k with
  | nil => simp at h
  | cons z tr ih =>
    cases k with
    | zero => simp at h; subst h; simp [shotCells]
    | succ k =>
      have := ih (by simpa using h)
      simp only [shotCells, List.flatMap_cons] at this ⊢
      have e1 : (k + 1) * 2 = k * 2 + 1 + 1 := by omega
      rw [e1]
      simpa using this
theorem take_snoc' {α : Type} {l : List α} {k : Nat} {x : α} (h : l[k]? = some x) : l.take (k + 1) = l.take k ++ [x] := by
  rw [List.take_add_one, h]; rfl
theorem links_snoc {l : List RuleD} {tr : List (Int × Int)} {k : Nat} {a q : Int} (h : tr[k]? = some (a, q)) :
    linksGo l 0 (tr.take (k + 1)) = linksGo l 0 (tr.take k) ++ [linkOf l (lenGo l (tr.take k)) a q] ∧ lenGo l (tr.take (k + 1)) = lenGo l (tr.take k) + stepLen l q := by
  rw [take_snoc' h, linksGo_append, lenGo_append]
  simp [linksGo, lenGo]
theorem link_none (l : List RuleD) (F : Nat) (a : Int) : linkOf l F a (-1) = ⟨F, (F : Int) + 1, a, a + 1, -1⟩ ∧ stepLen l (-1) = 1 := ⟨rfl, rfl⟩
theorem link_rule {l : List RuleD} {k : Nat} {r : RuleD} (h : l[k]? = some r) (F : Nat) (a : Int) : linkOf l F a k = ⟨F, (F : Int) + r.source.length, a, a + r.target.length, k⟩ ∧ stepLen l k = r.source.length := by
  unfold linkOf stepLen
  rw [if_neg (by omega), Int.toNat_natCast, h]
  exact ⟨rfl, rfl⟩

set_option maxRecDepth 100000 in
set_option maxHeartbeats 6400000 in
theorem align_links (X : Nat → Prop) (l : List RuleD) (Ar : Option Addr) (nr cr : Nat) (t : List Int) (At : Option Addr) (nt ct : Nat) (w : World) (hnr : nr ≤ maxLen) (hl : ListX (RuleC w X) w X 7 Ar nr l) (hnt : nt ≤ maxLen) (ht : RdR w w.heap.size At nt t) :
    Calls Try.prog 15 #[.slice Ar nr cr, .slice At nt ct] w fun e w' => AlPost w.heap.size w' (alignP l t) e ∧ Below w.heap.size w w' := by
  obtain ⟨i1, hi1, z0, z1, z2⟩ := info_parts infoLink
  have hb0 := (Below.refl w.heap.size w).alloc (Nat.le_refl _) (.cells #[.int .i64 0, .int .i64 0] 28)
  have HX0 := Lib.hid (Blk.new w 28 #[.int .i64 0, .int .i64 0])
  have HB0 := Lib.hid hb0
  have HL := Lib.hid (fun (W : World) (hb : Below w.heap.size w W) => show ListX (RuleC W X) W X 7 Ar nr l from hl.keep (Keeps.any hb) (fun _ _ => RuleC.keep (Keeps.any hb)))
  have HP := Lib.hid (vm_trace X l Ar nr cr t At nt ct _ hnr (HL.out _ hb0) hnt ((Rd.below ht hb0).more hb0.size))
  have HNR := Lib.hid (show l.length = nr from hl.len)
  clear hb0 hl ht
  go_enter Try.func15, Try.ntmps15
  go_wp2_with fail
  refine HP.out.mono ?_
  rintro e w1 ⟨⟨As, ns, cs, rfl, hr, hns⟩, hb1⟩
  have HX1 := Lib.hid (Blk.below HX0.out hb1 HX0.out.lt)
  have HB1 := Lib.hid (HB0.out.trans (hb1.mono HB0.out.size))
  have HR1 := Lib.hid hr
  obtain ⟨tr, f1, f2, hP⟩ : ∃ tr f1 f2, tracePo l t = (tr, (f1, f2)) := ⟨_, _, _, rfl⟩
  have HTP := Lib.hid hP
  rw [hP] at HR1 ⊢
  dsimp only at HR1 ⊢
  have HF2 := Lib.hid (Blk.new w1 28 #[.int .i64 f1, .int .i64 f2])
  have hba := (Below.refl w1.heap.size w1).alloc (Nat.le_refl _) (.cells #[.int .i64 f1, .int .i64 f2] 28)
  have HX2 := Lib.hid (Blk.below HX1.out hba HX1.out.lt)
  have HB2 := Lib.hid (HB1.out.trans (hba.mono HB1.out.size))
  have HR2 := Lib.hid (HR1.out.keep (Keeps.any hba))
  have hw1 := HX1.out.lt
  clear hb1 hr hP hba HX0 HB0 HP HX1 HB1 HR1
  go_upto_region 2 with fail
  generalize w1.alloc (.cells #[.int .i64 f1, .int .i64 f2] 28) = W2 at *
  have q0 := HF2.out.cell 0
  have q1 := HF2.out.cell 1
  have x0 := HX2.out.cell 0
  have x1 := HX2.out.cell 1
  have p0 := HX2.out.frozen 0
  have p1 := HX2.out.frozen 1
  by_cases hz : f1 = 0
  · have h00 : (playP l t).2.1 = 0 := by
      have h := HTP.out
      unfold tracePo at h
      by_cases h0 : (playP l t).2.1 = 0
      · exact h0
      · rw [if_pos h0] at h
        exact absurd (show (playP l t).2.1 = 0 from (congrArg (fun z => z.2.1) h).trans hz) h0
    have HTR := Lib.hid (show tr = traceP l t by
      have h := HTP.out
      unfold tracePo at h
      rw [if_neg (fun h2 => h2 h00)] at h
      exact (congrArg (fun z => z.1) h).symm)
    have HA := Lib.hid (show alignP l t = if sureP l = false then ([], (8, 0)) else (linksGo l 0 tr, (0, 0)) by unfold alignP; rw [if_neg (fun h => h h00), HTR.out])
    have HGD := Lib.hid (show GoodSteps l tr by rw [HTR.out]; exact traceP_good h00)
    have HRA := Lib.hid (right_all (playP_ok h00).1)
    have hr200 : l.length ≤ 200 := (right_rules (playP_ok h00).1).size
    clear h00
    subst hz
    have HSU := Lib.hid (analyse_sure X Ar nr cr l W2 (HL.out W2 HB2.out) hnr)
    clear HTP HTR
    go_wp2_with fail
    refine HSU.out.mono ?_
    rintro e w3 ⟨rfl, hb3⟩
    have HX3 := Lib.hid (Blk.below HX2.out hb3 HX2.out.lt)
    have HB3 := Lib.hid (HB2.out.trans (hb3.mono HB2.out.size))
    have HR3 := Lib.hid (HR2.out.keep (Keeps.any hb3))
    have hw3 := HX3.out.lt
    clear hb3 HX2 HB2 HR2 HF2 q0 q1 x0 x1 p0 p1
    cases hsu : sureP l
    · have HG := Lib.hid (HA.out.trans (if_pos hsu))
      have x0 := HX3.out.cell 0
      have x1 := HX3.out.cell 1
      have p0 := HX3.out.frozen 0
      have p1 := HX3.out.frozen 1
      have hbf := (HB3.out.setCell (p := ⟨w.heap.size, 0, none⟩) (by simp) (.int .i64 8)).setCell (p := ⟨w.heap.size, 1, none⟩) (by simp) (.int .i64 0)
      have HBF := Lib.hid hbf
      clear hbf hsu HA
      go_wp2_with fail
      rw [HG.out]
      exact bodyPost_ret (v := .tuple #[.slice none 0 0, .agg #[.int .i64 8, .int .i64 0]]) (by simp [results, Try.results15, go_sem, x0, x1]) rfl ⟨AlPost.nil _ _ _ _, HBF.out⟩
    · have HG := Lib.hid (HA.out.trans (if_neg (by rw [hsu]; decide)))
      have HLT := Lib.hid (show tr.length = ns by have := HR3.out.1; rw [shotCells_length] at this; omega)
      have HRU := Lib.hid (HL.out w3 HB3.out)
      clear hsu HA
      go_wp2_with fail
      go_loopw [8, 9, 32] (AlRel l tr ns w3) (fun _ _ i _ => ns - (intOf i).toNat)
      case atStart => exact ⟨0, Nat.zero_le _, rfl, rfl, World.ownsRow_nil _ _ _ _, Below.refl _ _⟩
      case round =>
        obtain ⟨k, hk, rfl, rfl, ho, hb⟩ := hrel
        have HO := Lib.hid ho
        have HB := Lib.hid hb
        have hz3 := hb.size
        obtain ⟨Ao, co, rfl, hco⟩ := own_form ho
        by_cases hlt : k < ns
        · obtain ⟨⟨a, q⟩, hx⟩ : ∃ x, tr[k]? = some x := ⟨_, List.getElem?_eq_getElem (by rw [HLT.out]; exact hlt)⟩
          obtain ⟨ha0, ha1, hq⟩ := HGD.out _ (List.mem_of_getElem? hx)
          dsimp only at ha0 ha1 hq
          obtain ⟨bs, os, rfl, _, hbs, hcs⟩ := HR3.out.2 (by omega)
          have d0 : wr.cell? ⟨bs, os + k * 2, none⟩ = some (.int .i64 a) := (hb.cell (p := ⟨bs, os + k * 2, none⟩) hbs).trans (hcs _ _ (shot_at hx).1)
          have d1 : wr.cell? ⟨bs, os + k * 2 + 1, none⟩ = some (.int .i64 q) := (hb.cell (p := ⟨bs, os + k * 2 + 1, none⟩) hbs).trans (by rw [Nat.add_assoc]; exact hcs _ _ (shot_at hx).2)
          have HLN := Lib.hid (links_snoc (l := l) hx)
          have hF := lenGo_le HRA.out (tr.take k)
          obtain ⟨F, hFe⟩ : ∃ F, lenGo l (tr.take k) = F := ⟨_, rfl⟩
          rw [hFe] at HLN hF ⊢
          have hF2 : F ≤ 2000000 := by
            rw [List.length_take] at hF
            omega
          have hba := ((Below.refl wr.heap.size wr).alloc (Nat.le_refl _) (.cells #[.int .i64 a, .int .i64 q] 93)).alloc (by simp) (.cells #[.int .i64 F, .int .i64 ((F : Int) + 1), .int .i64 a, .int .i64 (a + 1), .int .i64 (-1)] 41)
          have HS4 := Lib.hid ((Blk.new wr 93 #[.int .i64 a, .int .i64 q]).alloc (.cells #[.int .i64 F, .int .i64 ((F : Int) + 1), .int .i64 a, .int .i64 (a + 1), .int .i64 (-1)] 41))
          have HK4 := Lib.hid (show Blk ((wr.alloc (.cells #[.int .i64 a, .int .i64 q] 93)).alloc (.cells #[.int .i64 F, .int .i64 ((F : Int) + 1), .int .i64 a, .int .i64 (a + 1), .int .i64 (-1)] 41)) (wr.heap.size + 1) 41 #[.int .i64 F, .int .i64 ((F : Int) + 1), .int .i64 a, .int .i64 (a + 1), .int .i64 (-1)] by
            have := Blk.new (wr.alloc (.cells #[.int .i64 a, .int .i64 q] 93)) 41 #[.int .i64 F, .int .i64 ((F : Int) + 1), .int .i64 a, .int .i64 (a + 1), .int .i64 (-1)]
            simpa using this)
          have HB4 := Lib.hid (HB.out.trans (hba.mono hz3))
          have HO4 := Lib.hid (own_below ho hba)
          have HOB := Lib.hid (show ∀ b, (Value.slice Ao k co).ownBlock = some b → b < wr.heap.size from fun b hb => (own_lt ho hb).2)
          clear hx hF hFe ho hb hcs hba HB HO
          go_upto_region 12 with fail
          generalize hW4 : (wr.alloc (.cells #[.int .i64 a, .int .i64 q] 93)).alloc (.cells #[.int .i64 F, .int .i64 ((F : Int) + 1), .int .i64 a, .int .i64 (a + 1), .int .i64 (-1)] 41) = W4 at *
          clear hW4 d0 d1
          have hw4 := HK4.out.lt
          have s0 := HS4.out.cell 0
          have s1 := HS4.out.cell 1
          rcases hq with rfl | ⟨j, r, rfl, hj⟩
          · have HE := Lib.hid (link_none l F a)
            have y0 := HK4.out.cell 0
            have y1 := HK4.out.cell 1
            have y2 := HK4.out.cell 2
            have y3 := HK4.out.cell 3
            have y4 := HK4.out.cell 4
            have HN := Lib.hid (Rd.new W4 41 5 1 [.int .i64 F, .int .i64 ((F : Int) + 1), .int .i64 a, .int .i64 (a + 1), .int .i64 (-1)] rfl)
            have H1 := Lib.hid (show ∀ u ∈ [Value.int .i64 F, .int .i64 ((F : Int) + 1), .int .i64 a, .int .i64 (a + 1), .int .i64 (-1)], u.oneCell' = true by intro u hu; simp at hu; rcases hu with rfl | rfl | rfl | rfl | rfl <;> rfl)
            have HO5 := Lib.hid (World.ownsRow.alloc HO4.out (.cells #[.int .i64 F, .int .i64 ((F : Int) + 1), .int .i64 a, .int .i64 (a + 1), .int .i64 (-1)] 41))
            have HB5 := Lib.hid (HB4.out.alloc HB4.out.size (.cells #[.int .i64 F, .int .i64 ((F : Int) + 1), .int .i64 a, .int .i64 (a + 1), .int .i64 (-1)] 41))
            have HK5 := Lib.hid (HK4.out.alloc (.cells #[.int .i64 F, .int .i64 ((F : Int) + 1), .int .i64 a, .int .i64 (a + 1), .int .i64 (-1)] 41))
            go_wp2_with (at_builtin; refine wpList_append_rd _ rfl (.tmp 72) (.tmp 74) 37 rfl w3.heap.size 41 i1 _ 5 40 Try.underlying37 hi1 z0 z1 z2 rfl (by decide) _ k _ rfl HO5.out _ (some ⟨W4.heap.size, 0, none⟩) 1 1 [.int .i64 F, .int .i64 ((F : Int) + 1), .int .i64 a, .int .i64 (a + 1), .int .i64 (-1)] rfl HN.out H1.out (by simp only [maxLen]; omega) (by omega) HB5.out.size ?_)
            intro v' w9 happ
            have HB9 := Lib.hid (HB5.out.trans (happ.below HB5.out.size HO5.out))
            have HK9 := Lib.hid (show Blk w9 (wr.heap.size + 1) 41 #[.int .i64 F, .int .i64 ((F : Int) + 1), .int .i64 a, .int .i64 (a + 1), .int .i64 (-1)] from (happ.2.1.block _ HK5.out.lt (fun e => by have := HOB.out _ e.symm; omega)).trans HK5.out)
            have HO9 := Lib.hid (show w9.ownsRow w3.heap.size 41 5 v' (k + 1) (linkCells (linksGo l 0 (tr.take (k + 1)))) by
              rw [HLN.out.1, HE.out.1, linkCells_append]
              exact happ.own)
            clear happ y0 y1 y2 y3 y4
            have y1 := HK9.out.cell 1
            go_wp2_with fail
            exact ⟨⟨k + 1, by omega, by go_num, by rw [HLN.out.2, HE.out.2]; go_num, HO9.out, HB9.out⟩, by simp [intOf]; omega⟩
          · have hjn : j < nr := by have := (List.getElem?_eq_some_iff.1 hj).1; have := HNR.out; omega
            obtain ⟨rb, ro, A1, A2, A3, A4, n1, c1, n2, c2, n3, c3, n4, c4, rfl, _, hbb, ⟨_, _, _, d3, _, d5, _⟩, _, s2', _, s4', _⟩ := rule_at HRU.out hj
            have hn2 : r.source.length = n2 := s2'.list.len
            have hn4 : r.target.length = n4 := by have := s4'.1; rw [runeCells_length] at this; omega
            subst hn2 hn4
            have hl2 : r.source.length ≤ 20 := ((HRA.out r (List.mem_of_getElem? hj)).sets r.source (by simp [sidesOf])).1
            have hl4 : r.target.length ≤ 20 := (HRA.out r (List.mem_of_getElem? hj)).tgt.1
            have HE := Lib.hid (link_rule hj F a)
            clear s2' s4' hj
            have hj0 : (0 : Int) ≤ (j : Int) := by omega
            go_upto_region 14 with fail
            have y0 := HK4.out.cell 0
            have y1 := HK4.out.cell 1
            have y3 := HK4.out.cell 3
            have y4 := HK4.out.cell 4
            have f1' := HK4.out.frozen 1
            have f3' := HK4.out.frozen 3
            have f4' := HK4.out.frozen 4
            have e3 : W4.cell? ⟨rb, ro + j * 7 + 3, none⟩ = some (.slice A2 r.source.length c2) := (HB4.out.cell (p := ⟨rb, ro + j * 7 + 3, none⟩) hbb).trans d3
            have e5 : W4.cell? ⟨rb, ro + j * 7 + 5, none⟩ = some (.slice A4 r.target.length c4) := (HB4.out.cell (p := ⟨rb, ro + j * 7 + 5, none⟩) hbb).trans d5
            have hn1 : ¬ rb = wr.heap.size + 1 := by omega
            have hn2 : ¬ wr.heap.size + 1 = rb := by omega
            have hn3 : ¬ wr.heap.size = wr.heap.size + 1 := by omega
            have v1 : IntKind.i64.wrap ((F : Int) + (r.source.length : Int)) = (F : Int) + (r.source.length : Int) := IntWalk.i64_in _ (by omega)
            have v2 : IntKind.i64.wrap (a + (r.target.length : Int)) = a + (r.target.length : Int) := IntWalk.i64_in _ (by omega)
            clear d3 d5
            go_region_held3 (fun w' => w'.cell? ⟨rb, ro + j * 7 + 3, none⟩ = some (.slice A2 r.source.length c2) ∧ w'.cell? ⟨rb, ro + j * 7 + 5, none⟩ = some (.slice A4 r.target.length c4) ∧ w'.cell? ⟨wr.heap.size, 0, none⟩ = some (.int .i64 a) ∧ w'.cell? ⟨wr.heap.size, 1, none⟩ = some (.int .i64 j)) (go_keep) (fail)
            clear e3 e5 s0 s1 y0 y1 y3 y4
            go_upto_region 15 with fail
            clear v1 v2
            have HK5 := Lib.hid (show Blk ((((W4.setCell ⟨wr.heap.size + 1, 1, none⟩ (.int .i64 ((F : Int) + (r.source.length : Int)))).setCell ⟨wr.heap.size + 1, 3, none⟩ (.int .i64 (a + (r.target.length : Int)))).setCell ⟨wr.heap.size + 1, 4, none⟩ (.int .i64 (j : Int))).drew) (wr.heap.size + 1) 41 #[.int .i64 F, .int .i64 ((F : Int) + r.source.length), .int .i64 a, .int .i64 (a + r.target.length), .int .i64 (j : Int)] from ((HK4.out.put 1 (.int .i64 ((F : Int) + (r.source.length : Int)))).put 3 (.int .i64 (a + (r.target.length : Int)))).put 4 (.int .i64 (j : Int)))
            have HB5 := Lib.hid (show Below w3.heap.size w3 ((((W4.setCell ⟨wr.heap.size + 1, 1, none⟩ (.int .i64 ((F : Int) + (r.source.length : Int)))).setCell ⟨wr.heap.size + 1, 3, none⟩ (.int .i64 (a + (r.target.length : Int)))).setCell ⟨wr.heap.size + 1, 4, none⟩ (.int .i64 (j : Int))).drew) from (((HB4.out.setCell (p := ⟨wr.heap.size + 1, 1, none⟩) (by simp only; omega) _).setCell (p := ⟨wr.heap.size + 1, 3, none⟩) (by simp only; omega) _).setCell (p := ⟨wr.heap.size + 1, 4, none⟩) (by simp only; omega) _).drew)
            have HO5 := Lib.hid (show ((((W4.setCell ⟨wr.heap.size + 1, 1, none⟩ (.int .i64 ((F : Int) + (r.source.length : Int)))).setCell ⟨wr.heap.size + 1, 3, none⟩ (.int .i64 (a + (r.target.length : Int)))).setCell ⟨wr.heap.size + 1, 4, none⟩ (.int .i64 (j : Int))).drew).ownsRow w3.heap.size 41 5 (.slice Ao k co) k (linkCells (linksGo l 0 (tr.take k))) from
              own_belowB (own_belowB (own_belowB HO4.out (fun q hq => Below.heap_setCell _ _ _ q (by have := HOB.out q hq; simp only; omega))) (fun q hq => Below.heap_setCell _ _ _ q (by have := HOB.out q hq; simp only; omega))) (fun q hq => Below.heap_setCell _ _ _ q (by have := HOB.out q hq; simp only; omega)))
            generalize (((W4.setCell ⟨wr.heap.size + 1, 1, none⟩ (.int .i64 ((F : Int) + (r.source.length : Int)))).setCell ⟨wr.heap.size + 1, 3, none⟩ (.int .i64 (a + (r.target.length : Int)))).setCell ⟨wr.heap.size + 1, 4, none⟩ (.int .i64 (j : Int))).drew = W5 at *
            have hw5 := HK5.out.lt
            have y0 := HK5.out.cell 0
            have y1 := HK5.out.cell 1
            have y2 := HK5.out.cell 2
            have y3 := HK5.out.cell 3
            have y4 := HK5.out.cell 4
            have HN := Lib.hid (Rd.new W5 41 5 1 [.int .i64 F, .int .i64 ((F : Int) + r.source.length), .int .i64 a, .int .i64 (a + r.target.length), .int .i64 (j : Int)] rfl)
            have H1 := Lib.hid (show ∀ u ∈ [Value.int .i64 F, .int .i64 ((F : Int) + r.source.length), .int .i64 a, .int .i64 (a + r.target.length), .int .i64 (j : Int)], u.oneCell' = true by intro u hu; simp at hu; rcases hu with rfl | rfl | rfl | rfl | rfl <;> rfl)
            have HO6 := Lib.hid (World.ownsRow.alloc HO5.out (.cells #[.int .i64 F, .int .i64 ((F : Int) + r.source.length), .int .i64 a, .int .i64 (a + r.target.length), .int .i64 (j : Int)] 41))
            have HB6 := Lib.hid (HB5.out.alloc HB5.out.size (.cells #[.int .i64 F, .int .i64 ((F : Int) + r.source.length), .int .i64 a, .int .i64 (a + r.target.length), .int .i64 (j : Int)] 41))
            have HK6 := Lib.hid (HK5.out.alloc (.cells #[.int .i64 F, .int .i64 ((F : Int) + r.source.length), .int .i64 a, .int .i64 (a + r.target.length), .int .i64 (j : Int)] 41))
            go_wp2_with (at_builtin; refine wpList_append_rd _ rfl (.tmp 72) (.tmp 74) 37 rfl w3.heap.size 41 i1 _ 5 40 Try.underlying37 hi1 z0 z1 z2 rfl (by decide) _ k _ rfl HO6.out _ (some ⟨W5.heap.size, 0, none⟩) 1 1 [.int .i64 F, .int .i64 ((F : Int) + r.source.length), .int .i64 a, .int .i64 (a + r.target.length), .int .i64 (j : Int)] rfl HN.out H1.out (by simp only [maxLen]; omega) (by omega) HB6.out.size ?_)
            intro v' w9 happ
            have HB9 := Lib.hid (HB6.out.trans (happ.below HB6.out.size HO6.out))
            have HK9 := Lib.hid (show Blk w9 (wr.heap.size + 1) 41 #[.int .i64 F, .int .i64 ((F : Int) + r.source.length), .int .i64 a, .int .i64 (a + r.target.length), .int .i64 (j : Int)] from (happ.2.1.block _ HK6.out.lt (fun e => by have := HOB.out _ e.symm; omega)).trans HK6.out)
            have HO9 := Lib.hid (show w9.ownsRow w3.heap.size 41 5 v' (k + 1) (linkCells (linksGo l 0 (tr.take (k + 1)))) by
              rw [HLN.out.1, HE.out.1, linkCells_append]
              exact happ.own)
            clear happ y0 y1 y2 y3 y4
            have y1 := HK9.out.cell 1
            go_wp2_with fail
            exact ⟨⟨k + 1, by omega, by go_num, by rw [HLN.out.2, HE.out.2]; go_num, HO9.out, HB9.out⟩, by simp [intOf]; omega⟩
        · obtain rfl : k = ns := by omega
          have HX9 := Lib.hid (Blk.below HX3.out HB.out HX3.out.lt)
          have x0 := HX9.out.cell 0
          have x1 := HX9.out.cell 1
          have p0 := HX9.out.frozen 0
          have p1 := HX9.out.frozen 1
          have HB9 := Lib.hid (HB3.out.trans (HB.out.mono HB3.out.size))
          have hbf := (HB9.out.setCell (p := ⟨w.heap.size, 0, none⟩) (by simp) (.int .i64 0)).setCell (p := ⟨w.heap.size, 1, none⟩) (by simp) (.int .i64 0)
          have h5 := own_set_low (own_set_low HO.out (p := ⟨w.heap.size, 0, none⟩) (by simp only; omega) (.int .i64 0)) (p := ⟨w.heap.size, 1, none⟩) (by simp only; omega) (.int .i64 0)
          rw [List.take_of_length_le (by rw [HLT.out]; exact Nat.le_refl _)] at h5
          have HR := Lib.hid (show RdX ((wr.setCell ⟨w.heap.size, 0, none⟩ (.int .i64 0)).setCell ⟨w.heap.size, 1, none⟩ (.int .i64 0)) (fun b => w.heap.size ≤ b) 5 Ao k (linkCells (linksGo l 0 tr)) from
            RdX.of_own h5 (fun b hb => Nat.le_trans (Nat.le_of_lt hw3) (own_lt h5 hb).1))
          have HBF := Lib.hid hbf
          clear hbf h5 ho hb
          go_wp2_with fail
          rw [HG.out]
          exact bodyPost_ret (v := .tuple #[.slice Ao k co, .agg #[.int .i64 0, .int .i64 0]]) (by simp [results, Try.results15, go_sem, x0, x1]) rfl ⟨⟨Ao, k, co, rfl, HR.out, hns, hco⟩, HBF.out⟩
  · have HA := Lib.hid (show alignP l t = ([], (f1, f2)) by
      have h := HTP.out
      unfold tracePo at h
      by_cases h0 : (playP l t).2.1 = 0
      · rw [if_neg (fun h2 => h2 h0)] at h
        exact absurd (congrArg (fun z => z.2.1) h).symm hz
      · rw [if_pos h0] at h
        unfold alignP
        rw [if_pos h0]
        exact congrArg (fun z => (([] : List LinkD), z.2)) h)
    have hne1 : ¬ w.heap.size = w1.heap.size := by omega
    have hne2 : ¬ w1.heap.size = w.heap.size := by omega
    have hbf := ((HB2.out.setCell (p := ⟨w.heap.size, 0, none⟩) (by simp) (.int .i64 f1)).setCell (p := ⟨w.heap.size, 1, none⟩) (by simp) (.int .i64 f2)).drew
    have HBF := Lib.hid hbf
    clear hbf
    go_wp2_with fail
    go_region
    all_goals
      go_wp2_with fail
      rw [HA.out]
      exact bodyPost_ret (v := .tuple #[.slice none 0 0, .agg #[.int .i64 f1, .int .i64 f2]]) (by simp [results, Try.results15, go_sem, x0, x1]) rfl ⟨AlPost.nil _ _ _ _, HBF.out⟩

end Go.Proofs.Ytfmebbnccjaadaa
