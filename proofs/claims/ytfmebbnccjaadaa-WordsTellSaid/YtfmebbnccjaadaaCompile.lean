/- The walk of compile.Compile: it tells compP. -/
import Derived.Test.YtfmebbnccjaadaaHeadsMem
import Derived.Test.YtfmebbnccjaadaaEdgesSort
namespace Go.Proofs.Ytfmebbnccjaadaa
open Go.RowKit

def CpA (w : World) (l : List RuleD) (n : Nat) (s5 i : Value) (wr : World) : Prop :=
  ∃ k m : Nat, k ≤ n ∧ i = .int .i64 k ∧ (0 :: edgesL (l.take k)).length = m ∧ m ≤ 1 + 400 * k ∧ wr.ownsRow w.heap.size 21 1 s5 m (runeCells (0 :: edgesL (l.take k))) ∧ Blk wr w.heap.size 28 #[.int .i64 0, .int .i64 0] ∧ Below w.heap.size w wr
def CpB (w : World) (l : List RuleD) (s : Spans) (k n : Nat) (s5 i : Value) (wr : World) : Prop :=
  ∃ j m : Nat, j ≤ n ∧ i = .int .i64 j ∧ (0 :: edgesL (l.take k) ++ edgesS (s.take j)).length = m ∧ m ≤ 1 + 400 * k + 2 * j ∧ wr.ownsRow w.heap.size 21 1 s5 m (runeCells (0 :: edgesL (l.take k) ++ edgesS (s.take j))) ∧ Blk wr w.heap.size 28 #[.int .i64 0, .int .i64 0] ∧ Below w.heap.size w wr

theorem step_nil {l : List RuleD} {E : List Int} {j : Nat} {r : Int} (h : headsUpto l E j = []) (hr : E[j]? = some r) : headsUpto l E (j + 1) = [⟨r, gapEnd E j, beginP l r⟩] := by
  rw [headsUpto_succ hr, h]
  rfl
theorem step_same {l : List RuleD} {E : List Int} {j : Nat} {r : Int} {i : List HeadD} {x : HeadD} (h : headsUpto l E j = i ++ [x]) (hr : E[j]? = some r) (hx : (x.rules == beginP l r) = true) :
    headsUpto l E (j + 1) = i ++ [{ x with high := gapEnd E j }] := by
  rw [headsUpto_succ hr, h, stepH, lastRules_snoc, if_pos hx, setLast_snoc]
theorem step_more {l : List RuleD} {E : List Int} {j : Nat} {r : Int} {i : List HeadD} {x : HeadD} (h : headsUpto l E j = i ++ [x]) (hr : E[j]? = some r) (hx : (x.rules == beginP l r) = false) :
    headsUpto l E (j + 1) = i ++ [x] ++ [⟨r, gapEnd E j, beginP l r⟩] := by
  rw [headsUpto_succ hr, h, stepH, lastRules_snoc, if_neg (by rw [hx]; decide)]
def CpC (w5 : World) (l : List RuleD) (s10 i : Value) (wr : World) : Prop :=
  ∃ j : Nat, j ≤ (edgeP l).length ∧ i = .int .i64 j ∧ HeadsO w5.heap.size wr s10 (headsUpto l (edgeP l) j) ∧ Below w5.heap.size w5 wr
def CpD (w0 : World) (l : List RuleD) (r high : Int) (n : Nat) (i : Value) (wx : World) : Prop :=
  ∃ (k m : Nat) (v : Value), k ≤ n ∧ i = .int .i64 k ∧ m ≤ k ∧ (beginUpto l r k).length = m ∧ wx.ownsRow w0.heap.size 3 1 v m (intCells (beginUpto l r k)) ∧ Blk wx w0.heap.size 87 #[.int .i32 r, .int .i32 high, v] ∧ Below w0.heap.size w0 wx

set_option maxRecDepth 100000 in
set_option maxHeartbeats 3200000 in
theorem compile_heads (X : Nat → Prop) (l : List RuleD) (A : Option Addr) (n c : Nat) (w : World) (hn : n ≤ maxLen) (hl : ListX (RuleC w X) w X 7 A n l) :
    Calls Try.prog 68 #[.slice A n c] w fun e w' => (∃ v, e = .returned (.tuple #[v, .agg #[.int .i64 (compP l).2.1, .int .i64 (compP l).2.2]]) ∧ HeadsV w' (fun b => w.heap.size ≤ b) (compP l).1 v) ∧ Below w.heap.size w w' := by
  obtain ⟨i0, hi, q0, q1, q2⟩ := info_parts infoHead
  have HLEN := Lib.hid (show l.length = n from hl.len)
  have HL := Lib.hid (hl.keep (show Keeps w X w (fun b => b < w.heap.size) from fun b _ hlt => ⟨rfl, hlt, hlt⟩) (fun _ _ => RuleC.keep (show Keeps w X w (fun b => b < w.heap.size) from fun b _ hlt => ⟨rfl, hlt, hlt⟩)))
  have HF0 := Lib.hid (Blk.new w 28 #[.int .i64 0, .int .i64 0])
  have HB0 := Lib.hid ((Below.refl w.heap.size w).alloc (Nat.le_refl _) (.cells #[.int .i64 0, .int .i64 0] 28))
  obtain ⟨r1, r2, hR⟩ : ∃ r1 r2, rulesW l = (r1, r2) := ⟨_, _, rfl⟩
  have HW := Lib.hid (fun (w1 : World) (hb : Below w.heap.size w w1) => show Calls Try.prog 59 #[.slice A n c] w1 fun e w' => e = .returned (.agg #[.int .i64 r1, .int .i64 r2]) ∧ Below w1.heap.size w1 w' by
    have := run_wrong (fun b => b < w.heap.size) l A n c w1 hn (HL.out.keep (Keeps.below hb (fun _ h _ => h)) (fun _ _ => RuleC.keep (Keeps.below hb (fun _ h _ => h))))
    rwa [hR] at this)
  clear hl
  simp only [maxLen] at hn
  by_cases hz : r1 = 0
  · subst hz
    have HRR := Lib.hid (right_rules (l := l) (by rw [hR]))
    have HP := Lib.hid (show compP l = if 400 < (headsP l (edgeP l)).length then ([], (5, 0)) else (headsP l (edgeP l), (0, 0)) by unfold compP; rw [hR]; rfl)
    have hn2 : n ≤ 200 := by rw [← HLEN.out]; exact HRR.out.size
    clear hR
    go_enter Try.func68, Try.ntmps68
    go_wp2_with fail
    refine (HW.out _ HB0.out).mono ?_
    rintro e w1 ⟨rfl, hb1⟩
    have HF1 := Lib.hid (Blk.below HF0.out hb1 HF0.out.lt)
    have HB1 := Lib.hid (HB0.out.trans (hb1.mono HB0.out.size))
    clear hb1 HF0 HB0 HW
    have HF2 := Lib.hid (Blk.alloc (Blk.alloc HF1.out (.cells #[.int .i64 0, .int .i64 r2] 28)) (.cells #[.int .i32 0] 21))
    have HB2 := Lib.hid ((HB1.out.alloc HB1.out.size (.cells #[.int .i64 0, .int .i64 r2] 28)).alloc (by have := HB1.out.size; simp; omega) (.cells #[.int .i32 0] 21))
    have HO2 := Lib.hid (show ((w1.alloc (.cells #[.int .i64 0, .int .i64 r2] 28)).alloc (.cells #[.int .i32 0] 21)).ownsRow w.heap.size 21 1 (.slice (some ⟨w1.heap.size + 1, 0, none⟩) 1 1) 1 (runeCells (0 :: edgesL (l.take 0))) by
      have := World.ownsRow_lit (base := w.heap.size) (e := 21) (size := 1) (w1.alloc (.cells #[.int .i64 0, .int .i64 r2] 28)) #[.int .i32 0] 1 (by have := HB1.out.size; simp; omega) (by decide) rfl
      simpa [edgesL, runeCells] using this)
    go_wp2_with fail
    go_loopw [5, 26] (CpA w l n) (fun _ i _ => n - (intOf i).toNat)
    case atStart => exact ⟨0, 1, Nat.zero_le _, rfl, rfl, Nat.le_refl _, HO2.out, HF2.out, HB2.out⟩
    case round =>
      obtain ⟨k, m, hk, rfl, hml, hmk, hown, hf, hb⟩ := hrel
      have hz := hb.size
      by_cases hlt : k < n
      · obtain ⟨x, hx⟩ : ∃ z, l[k]? = some z := ⟨_, List.getElem?_eq_getElem (by rw [HLEN.out]; exact hlt)⟩
        have hmem := List.mem_of_getElem? hx
        have hkk := Keeps.below (X := fun b => b < w.heap.size) (X' := fun b => b < w.heap.size) hb (fun _ h _ => h)
        obtain ⟨b, off, A1, A2, A3, A4, n1, c1, n2, c2, n3, c3, n4, c4, rfl, _, hbb, ⟨d0, d1, d2, d3, d4, d5, d6⟩, _, s2, _, _, _⟩ := rule_at (HL.out.keep hkk (fun _ _ => RuleC.keep hkk)) hx
        obtain ⟨b2, off2, n2', c2', A', n', c', e2, hn2, hn2m, hb2w, _, hcx, hrd0, hrd, hnn⟩ := first_at s2 (HRR.out.src x hmem)
        cases e2
        obtain ⟨Av, cv, rfl, _⟩ := own_form hown
        have HSX := Lib.hid (HRR.out.set x hmem)
        have HSN := Lib.hid (show (firstSet x).length = n' from hrd0.len)
        have hn' : n' ≤ 200 := by rw [← HSN.out]; exact HSX.out.size
        have HX := Lib.hid hx
        have HRD := Lib.hid (show RdS w w.heap.size A' n' (firstSet x) from (hrd.keep (X' := fun b => b < w.heap.size) (w' := w) (fun b hb' _ => ⟨(hb.block b hb').symm, hb', hb'⟩)).of)
        have hb2' : b2 < wr.heap.size := Nat.lt_of_lt_of_le (show b2 < w.heap.size from hb2w) hz
        have HO3 := Lib.hid (World.ownsRow.alloc hown (.cells #[.bool x.start, .bool x.fin, .slice A1 n1 c1, .slice (some ⟨b2, off2, none⟩) n2 c2, .slice A3 n3 c3, .slice A4 n4 c4, .int .i64 x.cursor] 79))
        have HF3 := Lib.hid (hf.alloc (.cells #[.bool x.start, .bool x.fin, .slice A1 n1 c1, .slice (some ⟨b2, off2, none⟩) n2 c2, .slice A3 n3 c3, .slice A4 n4 c4, .int .i64 x.cursor] 79))
        have HB3 := Lib.hid (hb.alloc hb.size (.cells #[.bool x.start, .bool x.fin, .slice A1 n1 c1, .slice (some ⟨b2, off2, none⟩) n2 c2, .slice A3 n3 c3, .slice A4 n4 c4, .int .i64 x.cursor] 79))
        have HML := Lib.hid hml
        simp only [maxLen] at hn2m
        clear hx hmem s2 hrd hrd0 hown hf hb hkk hml
        go_wp2_with fail
        go_loopw [5, 35] (CpB w l (firstSet x) k n') (fun _ i _ => n' - (intOf i).toNat)
        case atStart => exact ⟨0, m, Nat.zero_le _, rfl, by simpa [edgesS] using HML.out, by omega, by simpa [edgesS] using HO3.out, HF3.out, HB3.out⟩
        case round =>
          obtain ⟨j, m2, hj, rfl, hml, hmk2, hown, hf, hb⟩ := hrel
          have hz4 := hb.size
          obtain ⟨Av5, cv5, rfl, _⟩ := own_form hown
          by_cases hlt2 : j < n'
          · obtain ⟨⟨y, z⟩, hy⟩ : ∃ z, (firstSet x)[j]? = some z := ⟨_, List.getElem?_eq_getElem (by rw [HSN.out]; exact hlt2)⟩
            obtain ⟨b3, off3, rfl, hb3, c0, c1⟩ := HRD.out.at hy
            have d0 := (hb.cell (p := ⟨b3, off3 + j * 2, none⟩) hb3).trans c0
            have d1 := (hb.cell (p := ⟨b3, off3 + j * 2 + 1, none⟩) hb3).trans c1
            have hyz := HSX.out.each (y, z) (List.mem_of_getElem? hy)
            simp only at hyz
            have HSY := Lib.hid (edgesS_snoc hy)
            have HO5 := Lib.hid (World.ownsRow.alloc (World.ownsRow.alloc hown (.cells #[.int .i32 y, .int .i32 z] 134)) (.cells #[.int .i32 y, .int .i32 (z + 1)] 21))
            have HF5 := Lib.hid ((hf.alloc (.cells #[.int .i32 y, .int .i32 z] 134)).alloc (.cells #[.int .i32 y, .int .i32 (z + 1)] 21))
            have HB5 := Lib.hid ((hb.alloc hb.size (.cells #[.int .i32 y, .int .i32 z] 134)).alloc (by simp; omega) (.cells #[.int .i32 y, .int .i32 (z + 1)] 21))
            have hnew := Rd.new (wr.alloc (.cells #[.int .i32 y, .int .i32 z] 134)) 21 1 2 [.int .i32 y, .int .i32 (z + 1)] rfl
            rw [show (wr.alloc (.cells #[.int .i32 y, .int .i32 z] 134)).heap.size = wr.heap.size + 1 by simp] at hnew
            have HN := Lib.hid hnew
            clear hnew
            have H1C := Lib.hid (show ∀ u ∈ [Value.int .i32 y, .int .i32 (z + 1)], u.oneCell' = true by intro x hx; simp at hx; rcases hx with rfl | rfl <;> rfl)
            have HML2 := Lib.hid hml
            obtain ⟨j0, hj0, p0, p1, p2⟩ := info_parts Try.info21
            clear hy c0 c1 hown hf hb hml
            go_wp2_with (at_builtin; refine wpList_append_rd _ rfl (.tmp 39) (.tmp 45) 23 rfl w.heap.size 21 j0 _ 1 4 Try.underlying23 hj0 p0 p1 p2 rfl (by decide) _ m2 _ rfl HO5.out _ (some ⟨wr.heap.size + 1, 0, none⟩) 2 2 _ rfl HN.out H1C.out (by simp only [maxLen]; omega) (by omega) HB5.out.size ?_)
            intro v9 w9 happ
            have HF9 := Lib.hid (blk_app HF5.out HO5.out (by decide) happ)
            have HB9 := Lib.hid (HB5.out.trans (happ.below HB5.out.size HO5.out))
            have HO9 := Lib.hid (show w9.ownsRow w.heap.size 21 1 v9 (m2 + 2) (runeCells (0 :: edgesL (l.take k) ++ edgesS ((firstSet x).take (j + 1)))) by
              have := happ.own
              rw [HSY.out]
              simpa [runeCells] using this)
            clear happ
            go_wp2_with fail
            refine ⟨⟨j + 1, m2 + 2, by omega, by go_num, ?_, by omega, HO9.out, HF9.out, HB9.out⟩, by simp [intOf]; omega⟩
            have := HML2.out
            rw [HSY.out]
            simp at this ⊢
            omega
          · obtain rfl : j = n' := by omega
            rw [show (firstSet x).take j = firstSet x from List.take_of_length_le (by rw [HSN.out]; exact Nat.le_refl _), List.cons_append, ← edgesL_snoc HX.out] at hml hown
            have HML2 := Lib.hid hml
            have HO5 := Lib.hid hown
            have HF5 := Lib.hid hf
            have HB5 := Lib.hid hb
            clear hml hown hf hb
            go_wp2_with fail
            exact ⟨⟨k + 1, m2, by omega, by go_num, HML2.out, by omega, HO5.out, HF5.out, HB5.out⟩, by simp [intOf]; omega⟩
      · obtain rfl : k = n := by omega
        rw [List.take_of_length_le (by rw [HLEN.out]; exact Nat.le_refl _)] at hml hown
        have hmpos : 0 < m := by rw [← hml]; simp
        obtain ⟨g, cv, rfl, hgc, hgl, hgs⟩ := own_some hown hmpos
        have HML := Lib.hid hml
        have HROW := Lib.hid (rowAt_of_own hown)
        have HF3 := Lib.hid hf
        have HB3 := Lib.hid hb
        have hgw : g ≠ w.heap.size := by
          rintro rfl
          exact own_ne_blk hown hf (by decide) rfl
        have HS := Lib.hid (sort_runes g 0 cv m (0 :: edgesL l).toArray wr (by rw [← hml]; simp) HROW.out (by omega))
        clear hml hown hf hb HF1 HB1 HF2 HB2 HO2
        go_wp2_with fail
        refine HS.out.mono ?_
        rintro e w2 ⟨rfl, d', hperm, hsort, hrow⟩
        have hE := sorted_edges HML.out hperm hsort
        have hd' : d'.size = m := by rw [hperm.1]; simpa using HML.out
        have HC := Lib.hid (compact_runes g 0 cv m d' w2 hd' hrow.row (by omega) hgc)
        have hEd := edges_of HRR.out.set hE.1 hE.2
        generalize hEE : Lib.compactUpTo d' m = E at *
        have HE := Lib.hid hEd
        have HB4 := Lib.hid (HB3.out.trans (hrow.rest.to HB3.out.size hgl))
        have HF4 := Lib.hid (show Blk w2 w.heap.size 28 #[.int .i64 0, .int .i64 0] from (hrow.rest.2.2.2.2 _ HF3.out.lt (fun e => hgw e.symm)).trans HF3.out)
        have hz2 := hrow.rest.1
        clear hE hEd hEE hperm hsort hrow hd' HS HF3 HB3 HROW
        go_wp2_with fail
        refine HC.out.mono ?_
        rintro e w3 ⟨rfl, d2, hd2, htake, hrow⟩
        have HRE := Lib.hid (rdR_of_row hrow.row htake rfl)
        have HB5 := Lib.hid (HB4.out.trans (hrow.rest.to HB4.out.size hgl))
        have HF5 := Lib.hid (show Blk w3 w.heap.size 28 #[.int .i64 0, .int .i64 0] from (hrow.rest.2.2.2.2 _ HF4.out.lt (fun e => hgw e.symm)).trans HF4.out)
        have hz3 := hrow.rest.1
        clear hd2 htake hrow HC HF4 HB4
        generalize hEN : E.length = ne at *
        have HEN := Lib.hid hEN
        clear hEN
        go_wp2_with fail
        have hEP : ne ≤ 80002 ∧ (edgeP l).length ≤ ne ∧ (edgeP l).length ≤ 80001 := by
          have h1 := (foldPut_len (edgesL l) [0]).2
          have h2 := edgesL_len HRR.out.set
          have h3 := HEN.out
          have h4 := HLEN.out
          rw [show (edgesL l).foldl putP [0] = edgeP l from rfl] at h1
          simp only [List.length_cons, List.length_nil] at h1
          rcases HE.out with rfl | rfl
          · omega
          · simp at h3; omega
        go_loopw [10, 55] (CpC w3 l) (fun _ i _ => ne - (intOf i).toNat)
        case atStart => exact ⟨0, Nat.zero_le _, rfl, HeadsO.nil _ _, Below.refl _ _⟩
        case round =>
          obtain ⟨j, hj, rfl, hho, hb⟩ := hrel
          have hz5 := hb.size
          have HBW := Lib.hid (HB5.out.trans (hb.mono HB5.out.size))
          have HHO := Lib.hid hho
          have HB := Lib.hid hb
          obtain ⟨Av10, cv10, rfl, _⟩ := hho.form
          by_cases hlt : j < ne
          · obtain ⟨r, hr⟩ : ∃ z, E[j]? = some z := ⟨_, List.getElem?_eq_getElem (by rw [HEN.out]; exact hlt)⟩
            have hcell : ∀ (t : Nat) (y : Int), E[t]? = some y → wr.cell? ⟨g, t, none⟩ = some (.int .i32 y) := by
              intro t y hy
              have ht := (List.getElem?_eq_some_iff.1 hy).1
              obtain ⟨b, off, e, hbb, hc0⟩ := HRE.out.at (k := t) (by rw [← HEN.out]; exact ht)
              cases e
              rw [show E.getD t 0 = y by simp [List.getD, hy], Nat.zero_add] at hc0
              exact (hb.cell (p := ⟨g, t, none⟩) hbb).trans hc0
            have hc := hcell j r hr
            have hEA := edges_at HE.out hr
            by_cases hbig : 1114111 < r
            · have hjE : j = (edgeP l).length := hEA.2 hbig
              clear hEA hr hcell
              have HFL := Lib.hid (Blk.below HF5.out hb HF5.out.lt)
              have HHD := Lib.hid (hho.done (by rw [hjE]; have := headsUpto_len l (edgeP l) (edgeP l).length; simp only [maxLen]; omega))
              have HP2 := Lib.hid (HP.out.trans (by rw [show headsP l (edgeP l) = headsUpto l (edgeP l) j by unfold headsP; rw [hjE]]))
              have hal := headsUpto_len l (edgeP l) j
              have a0 := HFL.out.cell 0
              have a1 := HFL.out.cell 1
              have f0 := HFL.out.frozen 0
              have f1 := HFL.out.frozen 1
              have hfl := HFL.out.lt
              have hwlt : w.heap.size < w3.heap.size := HF5.out.lt
              have hk2 : Keeps wr (fun b => w3.heap.size ≤ b) ((wr.setCell ⟨w.heap.size, 0, none⟩ (.int .i64 0)).setCell ⟨w.heap.size, 1, none⟩ (.int .i64 0)) (fun b => w.heap.size ≤ b) :=
                (Keeps.setCell (X' := fun b => w3.heap.size ≤ b) (p := ⟨w.heap.size, 0, none⟩) _ (fun b h => by simp only; omega) (fun _ h _ => h)).trans (Keeps.setCell (p := ⟨w.heap.size, 1, none⟩) _ (fun b h => by simp only; omega) (fun _ h _ => by omega))
              have HHE := Lib.hid (HHD.out.keep hk2)
              have HBE := Lib.hid ((HBW.out.setCell (p := ⟨w.heap.size, 0, none⟩) (by simp) (.int .i64 5)).setCell (p := ⟨w.heap.size, 1, none⟩) (by simp) (.int .i64 0))
              have HBE2 := Lib.hid ((HBW.out.setCell (p := ⟨w.heap.size, 0, none⟩) (by simp) (.int .i64 0)).setCell (p := ⟨w.heap.size, 1, none⟩) (by simp) (.int .i64 0))
              clear hho hb HP hk2 HHD HHO hjE
              generalize headsUpto l (edgeP l) j = H at *
              by_cases h4 : 400 < H.length
              · have HP3 := Lib.hid (HP2.out.trans (if_pos h4))
                go_wp2_with fail
                rw [HP3.out]
                refine bodyPost_ret (v := .tuple #[.slice none 0 0, .agg #[.int .i64 5, .int .i64 0]]) (by simp [results, Try.results68, go_sem, a0, a1]) rfl ⟨⟨_, rfl, ?_⟩, HBE.out⟩
                exact ⟨none, 0, 0, rfl, ⟨[], rfl, rfl, by simp, by simp, by simp, fun h => absurd h (Nat.lt_irrefl 0)⟩, Nat.zero_le _⟩
              · have HP3 := Lib.hid (HP2.out.trans (if_neg h4))
                go_wp2_with fail
                rw [HP3.out]
                exact bodyPost_ret (v := .tuple #[.slice Av10 H.length cv10, .agg #[.int .i64 0, .int .i64 0]]) (by simp [results, Try.results68, go_sem, a0, a1]) rfl ⟨⟨_, rfl, HHE.out⟩, HBE2.out⟩
            · have HEA := Lib.hid (hEA.1 (by omega))
              have HR := Lib.hid hr
              have HCELL := Lib.hid hcell
              clear hr hcell hEA hho hb
              go_upto_if 68 with fail
              go_cut [] (fun wx => Blk wx wr.heap.size 87 #[.int .i32 r, .int .i32 (gapEnd (edgeP l) j), .slice none 0 0] ∧ Below wr.heap.size wr wx)
              case first =>
                have HBX := Lib.hid (Blk.new wr 87 #[.int .i32 r, .int .i32 1114111, .slice none 0 0])
                have HBB := Lib.hid ((Below.refl wr.heap.size wr).alloc (Nat.le_refl _) (.cells #[.int .i32 r, .int .i32 1114111, .slice none 0 0] 87))
                by_cases h1 : j + 1 < ne
                · obtain ⟨y, hy⟩ : ∃ z, E[j + 1]? = some z := ⟨_, List.getElem?_eq_getElem (by rw [HEN.out]; exact h1)⟩
                  have hcy := (HBB.out.cell (p := ⟨g, j + 1, none⟩) (show g < wr.heap.size by omega)).trans (HCELL.out _ y hy)
                  have HGE := Lib.hid (show gapEnd (edgeP l) j = y - 1 by rw [HEA.out.2, hy])
                  have HYB := Lib.hid (show 0 ≤ y ∧ y ≤ 1114112 by
                    have := HE.out
                    have hm := List.mem_of_getElem? hy
                    rcases this with e | e
                    · rw [e] at hm
                      rcases (edgeP_mem l y).1 hm with rfl | ⟨h1, h2⟩
                      · decide
                      · have := edgesL_mem HRR.out.set y h1; omega
                    · rw [e] at hm
                      rcases List.mem_append.1 hm with hm | hm
                      · rcases (edgeP_mem l y).1 hm with rfl | ⟨h1, h2⟩
                        · decide
                        · have := edgesL_mem HRR.out.set y h1; omega
                      · simp at hm; omega)
                  have hyb := HYB.out
                  have hd1 : decide ((j : Int) + 1 < (ne : Int)) = true := decide_eq_true (by omega)
                  clear hy
                  go_wp2_with fail
                  go_meet
                  rw [HGE.out]
                  exact ⟨Blk.new _ _ _, (Below.refl _ _).alloc (Nat.le_refl _) _⟩
                · have HGE := Lib.hid (show gapEnd (edgeP l) j = 1114111 by rw [HEA.out.2, List.getElem?_eq_none (by rw [HEN.out]; omega)])
                  have hd1 : decide ((j : Int) + 1 < (ne : Int)) = false := decide_eq_false (by omega)
                  go_wp2_with fail
                  go_meet
                  rw [HGE.out]
                  exact ⟨HBX.out, HBB.out⟩
              case rest =>
                obtain ⟨hbx, hbc⟩ := hcut
                obtain ⟨W0, rfl⟩ : ∃ W0, W0 = wr := ⟨_, rfl⟩
                have HBX := Lib.hid hbx
                have HBC := Lib.hid hbc
                generalize hgap : gapEnd (edgeP l) j = high at *
                have HGAP := Lib.hid hgap
                clear hbx hbc hgap
                go_wp2_with fail
                go_loopw [78] (CpD W0 l r high k) (fun i _ => k - (intOf i).toNat)
                case atStart => exact ⟨0, 0, _, Nat.zero_le _, rfl, Nat.le_refl _, rfl, World.ownsRow_nil _ _ _ _, HBX.out, HBC.out⟩
                case round =>
                  obtain ⟨q, m6, v6, hq, rfl, hmq, hml6, hown, hbx, hb6⟩ := hrel
                  have hz6 := hb6.size
                  have HML6 := Lib.hid hml6
                  clear hml6
                  by_cases hlt6 : q < k
                  · obtain ⟨x, hx⟩ : ∃ z, l[q]? = some z := ⟨_, List.getElem?_eq_getElem (by rw [HLEN.out]; exact hlt6)⟩
                    have hmem := List.mem_of_getElem? hx
                    have hbw6 := HBW.out.trans (hb6.mono HBW.out.size)
                    have hkk := Keeps.below (X := fun b => b < w.heap.size) (X' := fun b => b < w.heap.size) hbw6 (fun _ h _ => h)
                    obtain ⟨b, off, A1, A2, A3, A4, n1, c1, n2, c2, n3, c3, n4, c4, rfl, _, hbb, ⟨d0, d1, d2, d3, d4, d5, d6⟩, _, s2, _, _, _⟩ := rule_at (HL.out.keep hkk (fun _ _ => RuleC.keep hkk)) hx
                    obtain ⟨b2, off2, n2', c2', A', n', c', e2, hn2, hn2m, hb2w, _, hcx, hrd0, hrd, hnn⟩ := first_at s2 (HRR.out.src x hmem)
                    cases e2
                    have hw0 : W0.heap.size < wr.heap.size := hbx.lt
                    have HO6 := Lib.hid (World.ownsRow.alloc hown (.cells #[.bool x.start, .bool x.fin, .slice A1 n1 c1, .slice (some ⟨b2, off2, none⟩) n2 c2, .slice A3 n3 c3, .slice A4 n4 c4, .int .i64 x.cursor] 79))
                    have HBX6 := Lib.hid (hbx.alloc (.cells #[.bool x.start, .bool x.fin, .slice A1 n1 c1, .slice (some ⟨b2, off2, none⟩) n2 c2, .slice A3 n3 c3, .slice A4 n4 c4, .int .i64 x.cursor] 79))
                    have HB6 := Lib.hid (hb6.alloc hb6.size (.cells #[.bool x.start, .bool x.fin, .slice A1 n1 c1, .slice (some ⟨b2, off2, none⟩) n2 c2, .slice A3 n3 c3, .slice A4 n4 c4, .int .i64 x.cursor] 79))
                    have HSH := Lib.hid (sets_has A' n' c' (firstSet x) r (wr.alloc (.cells #[.bool x.start, .bool x.fin, .slice A1 n1 c1, .slice (some ⟨b2, off2, none⟩) n2 c2, .slice A3 n3 c3, .slice A4 n4 c4, .int .i64 x.cursor] 79)) (HRR.out.set x hmem) (hrd.keep (X' := fun b => b < w.heap.size) (Keeps.alloc _ (fun _ h _ => h))).of)
                    have HMB := Lib.hid (show mayB l r q = hasP (firstSet x) r by unfold mayB; rw [hx])
                    have hcx2 : (wr.alloc (.cells #[.bool x.start, .bool x.fin, .slice A1 n1 c1, .slice (some ⟨b2, off2, none⟩) n2 c2, .slice A3 n3 c3, .slice A4 n4 c4, .int .i64 x.cursor] 79)).cell? ⟨b2, off2, none⟩ = some (.slice A' n' c') :=
                      (World.cell?_alloc_lt wr _ ⟨b2, off2, none⟩ (show b2 < wr.heap.size from Nat.lt_of_lt_of_le (show b2 < w.heap.size from hb2w) hbw6.size)).trans hcx
                    obtain ⟨Av6, cv6, rfl, _⟩ := own_form hown
                    simp only [maxLen] at hn2m
                    clear hx hmem s2 hrd hrd0 hown hbx hb6 hkk hbw6 hcx
                    go_wp2_with fail
                    refine HSH.out.mono ?_
                    rintro e w7 ⟨rfl, hb7⟩
                    have HO7 := Lib.hid (own_below HO6.out hb7)
                    have HBX7 := Lib.hid (Blk.below HBX6.out hb7 HBX6.out.lt)
                    have HB7 := Lib.hid (HB6.out.trans (hb7.mono HB6.out.size))
                    have hz7 := hb7.size
                    simp at hz7
                    clear hb7 HSH HO6 HBX6 HB6
                    cases hp : hasP (firstSet x) r
                    · have HE2 := Lib.hid (beginUpto_no (HMB.out.trans hp))
                      clear hp
                      go_wp2_with fail
                      exact ⟨⟨q + 1, m6, _, by omega, by go_num, by omega, by rw [HE2.out]; exact HML6.out, by rw [HE2.out]; exact HO7.out, HBX7.out, HB7.out⟩, by simp [intOf]; omega⟩
                    · have HE2 := Lib.hid (beginUpto_yes (HMB.out.trans hp))
                      clear hp
                      have h2c : w7.cell? ⟨W0.heap.size, 2, none⟩ = some (.slice Av6 m6 cv6) := HBX7.out.cell 2
                      have HN := Lib.hid (Rd.new w7 3 1 1 [.int .i64 q] rfl)
                      have HO8 := Lib.hid (World.ownsRow.alloc HO7.out (.cells #[.int .i64 q] 3))
                      have HBX8 := Lib.hid (HBX7.out.alloc (.cells #[.int .i64 q] 3))
                      have HB8 := Lib.hid (HB7.out.alloc HB7.out.size (.cells #[.int .i64 q] 3))
                      have H1C := Lib.hid (show ∀ u ∈ [Value.int .i64 q], u.oneCell' = true by intro x hx; simp at hx; subst hx; rfl)
                      obtain ⟨j0, hj0, p0, p1, p2⟩ := info_parts infoInt
                      go_wp2_with (at_builtin; refine wpList_append_rd _ rfl (.tmp 90) (.tmp 92) 83 rfl W0.heap.size 3 j0 _ 1 8 Try.underlying83 hj0 p0 p1 p2 rfl (by decide) _ _ _ rfl HO8.out _ (some ⟨w7.heap.size, 0, none⟩) 1 1 [.int .i64 q] rfl HN.out H1C.out (by simp only [maxLen]; omega) (by omega) HB8.out.size ?_)
                      intro v9 w9 happ
                      have hbx9 := blk_app HBX8.out HO8.out (by decide) happ
                      have HB9 := Lib.hid (HB8.out.trans (happ.below HB8.out.size HO8.out))
                      have ho9 := happ.own
                      rw [← intCells_snoc, ← HE2.out] at ho9
                      obtain ⟨Av9, cv9, rfl, _⟩ := own_form ho9
                      have HBX9 := Lib.hid (hbx9.put 2 (.slice Av9 (m6 + 1) cv9))
                      have HO9 := Lib.hid (own_setCell_ne (u := .slice Av9 (m6 + 1) cv9) (i := 2) ho9 hbx9 (by decide))
                      have k2c : w9.cell? ⟨W0.heap.size, 2, none⟩ = some (.slice Av6 m6 cv6) := hbx9.cell 2
                      have k2f := hbx9.frozen 2
                      clear happ hbx9 ho9
                      go_wp2_with fail
                      exact ⟨⟨q + 1, m6 + 1, _, by omega, by go_num, by omega, by rw [HE2.out, List.length_append, HML6.out]; rfl, HO9.out, HBX9.out, HB9.out.setCell (p := ⟨W0.heap.size, 2, none⟩) (by simp) _⟩, by simp [intOf]; omega⟩
                  · obtain rfl : q = k := by omega
                    have HE2 := Lib.hid (show beginP l r = beginUpto l r q by unfold beginP; rw [HLEN.out])
                    obtain ⟨Av6, cv6, rfl, _⟩ := own_form hown
                    have hal := headsUpto_len l (edgeP l) j
                    have hjl : j < (edgeP l).length := (List.getElem?_eq_some_iff.1 HEA.out.1).1
                    have hbm : Below W0.heap.size W0 wr := hb6
                    have HB6 := Lib.hid (HB.out.trans (hbm.mono HB.out.size))
                    have hw0 : W0.heap.size < wr.heap.size := hbx.lt
                    have HIV := Lib.hid (show IntsV wr (IntB W0.heap.size wr) (beginP l r) (.slice Av6 m6 cv6) by
                      rw [HE2.out]
                      have := RdX.of_own (X := IntB W0.heap.size wr) hown (own_intB hown (Nat.le_refl _))
                      exact ⟨Av6, m6, cv6, rfl, this, by simp only [maxLen]; omega⟩)
                    have HHO6 := Lib.hid (show HeadsO w3.heap.size wr (.slice Av10 (headsUpto l (edgeP l) j).length cv10) (headsUpto l (edgeP l) j) from HHO.out.below hbm)
                    have e0 : wr.cell? ⟨W0.heap.size, 0, none⟩ = some (.int .i32 r) := hbx.cell 0
                    have e1 : wr.cell? ⟨W0.heap.size, 1, none⟩ = some (.int .i32 high) := hbx.cell 1
                    have e2 : wr.cell? ⟨W0.heap.size, 2, none⟩ = some (.slice Av6 m6 cv6) := hbx.cell 2
                    have HML7 := Lib.hid (show (beginP l r).length = m6 by rw [HE2.out]; exact HML6.out)
                    clear hown hbx hb6 hbm HBX HBC
                    rcases List.eq_nil_or_concat (headsUpto l (edgeP l) j) with hacc | ⟨i, x, hacc⟩
                    · have HNX := Lib.hid (step_nil hacc HEA.out.1)
                      rw [HGAP.out] at HNX
                      rw [hacc] at HHO6 ⊢
                      clear hacc hal
                      go_wp2_with fail
                      go_quiet (fail)
                      have HD6 := Lib.hid (HHO6.out.below (w' := wr.drewN nq) (below_drewN (Below.refl _ _) nq))
                      have HV6 := Lib.hid (HIV.out.keep (IntB.below (below_drewN (Below.refl wr.heap.size wr) nq)))
                      have HB7 := Lib.hid (below_drewN HB6.out nq)
                      obtain ⟨xs, ho, hf⟩ := HeadsO.ready (hs := []) HD6.out HV6.out HB7.out.size hz5 r high
                      have HO := Lib.hid ho
                      have HFF := Lib.hid hf
                      have HN := Lib.hid (Rd.new (wr.drewN nq) 87 3 1 [.int .i32 r, .int .i32 high, .slice Av6 m6 cv6] rfl)
                      have H1C := Lib.hid (show ∀ u ∈ ([.int .i32 r, .int .i32 high, .slice Av6 m6 cv6] : List Value), u.oneCell' = true by intro x hx; simp at hx; rcases hx with rfl | rfl | rfl <;> rfl)
                      have k0 : (wr.drewN nq).cell? ⟨W0.heap.size, 0, none⟩ = some (.int .i32 r) := e0
                      have k1 : (wr.drewN nq).cell? ⟨W0.heap.size, 1, none⟩ = some (.int .i32 high) := e1
                      have k2 : (wr.drewN nq).cell? ⟨W0.heap.size, 2, none⟩ = some (.slice Av6 m6 cv6) := e2
                      clear ho hf
                      go_wp2_with (at_builtin; refine wpList_append_rd _ rfl (.tmp 117) (.tmp 119) 32 rfl w3.heap.size 87 i0 _ 3 32 Try.underlying32 hi q0 q1 q2 rfl (by decide) _ 0 _ rfl HO.out _ (some ⟨wr.heap.size, 0, none⟩) 1 1 _ rfl HN.out H1C.out (by simp only [maxLen]; omega) (by omega) (by simp; omega) ?_)
                      intro v9 w9 happ
                      have h9 := HFF.out _ _ _ rfl happ
                      rw [List.nil_append, ← HNX.out] at h9
                      have HH9 := Lib.hid h9.1
                      have HB9 := Lib.hid (HB7.out.trans h9.2)
                      clear happ h9
                      go_wp2_with fail
                      exact ⟨⟨j + 1, by omega, by go_num, HH9.out, HB9.out⟩, by simp [intOf]; omega⟩
                    · rw [List.concat_eq_append] at hacc
                      rw [hacc] at HHO6 hal ⊢
                      obtain ⟨gg, cg, Ag, cg', e3, hcg, hgl', hgs', g1, gf, g2, gr, hxl⟩ := HHO6.out.last
                      simp only [List.length_append, List.length_cons, List.length_nil, Nat.zero_add, Value.slice.injEq, true_and] at e3
                      obtain ⟨rfl, rfl⟩ := e3
                      have hho2 := HHO6.out
                      simp only [List.length_append, List.length_cons, List.length_nil, Nat.zero_add] at hho2 hal ⊢
                      have HHO6 := Lib.hid hho2
                      simp only [maxLen] at hxl
                      generalize hm : i.length = mm at *
                      have HM := Lib.hid hm
                      have HACC := Lib.hid hacc
                      have HEQ := Lib.hid (fun (nq : Nat) => slices_equal Ag Av6 x.rules.length m6 cg' cv6 x.rules (beginP l r) (wr.drewN nq) (by omega) gr (by
                        obtain ⟨A', c', e, h1, _, _⟩ := HIV.out.form
                        rw [HML7.out] at h1 e
                        cases e
                        exact h1))
                      have hge : decide ((0 : Int) ≤ (mm : Int)) = true := decide_eq_true (by omega)
                      clear hm hacc hho2 gr
                      cases hsame : x.rules == beginP l r
                      · have HNX := Lib.hid (step_more HACC.out HEA.out.1 hsame)
                        rw [HGAP.out] at HNX
                        rw [hsame] at HEQ
                        clear hsame
                        go_wp2_with fail
                        go_quiet (first | (go_at_call 94; exact Calls.quiet_of (HEQ.out _)))
                        have HD6 := Lib.hid (HHO6.out.below (w' := wr.drewN nq) (below_drewN (Below.refl _ _) nq))
                        have HV6 := Lib.hid (HIV.out.keep (IntB.below (below_drewN (Below.refl wr.heap.size wr) nq)))
                        have HB7 := Lib.hid (below_drewN HB6.out nq)
                        obtain ⟨xs, ho, hf⟩ := HeadsO.ready HD6.out HV6.out HB7.out.size hz5 r high
                        rw [show (i ++ [x]).length = mm + 1 by simp [HM.out]] at ho hf
                        have HO := Lib.hid ho
                        have HFF := Lib.hid hf
                        have HN := Lib.hid (Rd.new (wr.drewN nq) 87 3 1 [.int .i32 r, .int .i32 high, .slice Av6 m6 cv6] rfl)
                        have H1C := Lib.hid (show ∀ u ∈ ([.int .i32 r, .int .i32 high, .slice Av6 m6 cv6] : List Value), u.oneCell' = true by intro x hx; simp at hx; rcases hx with rfl | rfl | rfl <;> rfl)
                        have k0 : (wr.drewN nq).cell? ⟨W0.heap.size, 0, none⟩ = some (.int .i32 r) := e0
                        have k1 : (wr.drewN nq).cell? ⟨W0.heap.size, 1, none⟩ = some (.int .i32 high) := e1
                        have k2 : (wr.drewN nq).cell? ⟨W0.heap.size, 2, none⟩ = some (.slice Av6 m6 cv6) := e2
                        clear ho hf
                        go_wp2_with (at_builtin; refine wpList_append_rd _ rfl (.tmp 117) (.tmp 119) 32 rfl w3.heap.size 87 i0 _ 3 32 Try.underlying32 hi q0 q1 q2 rfl (by decide) _ (mm + 1) _ rfl HO.out _ (some ⟨wr.heap.size, 0, none⟩) 1 1 _ rfl HN.out H1C.out (by simp only [maxLen]; omega) (by omega) (by simp; omega) ?_)
                        intro v9 w9 happ
                        have h9 := HFF.out _ _ _ rfl happ
                        rw [← HNX.out] at h9
                        have HH9 := Lib.hid h9.1
                        have HB9 := Lib.hid (HB7.out.trans h9.2)
                        clear happ h9
                        go_wp2_with fail
                        exact ⟨⟨j + 1, by omega, by go_num, HH9.out, HB9.out⟩, by simp [intOf]; omega⟩
                      · have HNX := Lib.hid (step_same HACC.out HEA.out.1 hsame)
                        rw [HGAP.out] at HNX
                        rw [hsame] at HEQ
                        clear hsame
                        go_wp2_with fail
                        go_quiet (first | (go_at_call 94; exact Calls.quiet_of (HEQ.out _)))
                        have hh := HeadsO.setHigh (HHO6.out.below (w' := wr.drewN nq) (below_drewN (Below.refl _ _) nq)) high
                        rw [HM.out, ← HNX.out] at hh
                        have HH9 := Lib.hid hh.1
                        have HB9 := Lib.hid ((below_drewN HB6.out nq).trans hh.2)
                        have k1 : (wr.drewN nq).cell? ⟨W0.heap.size, 1, none⟩ = some (.int .i32 high) := e1
                        have g1' : (wr.drewN nq).cell? ⟨gg, mm * 3 + 1, none⟩ = some (.int .i32 x.high) := g1
                        have gf' : (wr.drewN nq).frozen? ⟨gg, mm * 3 + 1, none⟩ = false := gf
                        clear hh
                        go_wp2_with fail
                        exact ⟨⟨j + 1, by omega, by go_num, HH9.out, HB9.out⟩, by simp [intOf]; omega⟩
          · have hjE : j = (edgeP l).length := by omega
            have HFL := Lib.hid (Blk.below HF5.out hb HF5.out.lt)
            have HHD := Lib.hid (hho.done (by rw [hjE]; have := headsUpto_len l (edgeP l) (edgeP l).length; simp only [maxLen]; omega))
            have HP2 := Lib.hid (HP.out.trans (by rw [show headsP l (edgeP l) = headsUpto l (edgeP l) j by unfold headsP; rw [hjE]]))
            have hal := headsUpto_len l (edgeP l) j
            have a0 := HFL.out.cell 0
            have a1 := HFL.out.cell 1
            have f0 := HFL.out.frozen 0
            have f1 := HFL.out.frozen 1
            have hfl := HFL.out.lt
            have hwlt : w.heap.size < w3.heap.size := HF5.out.lt
            have hk2 : Keeps wr (fun b => w3.heap.size ≤ b) ((wr.setCell ⟨w.heap.size, 0, none⟩ (.int .i64 0)).setCell ⟨w.heap.size, 1, none⟩ (.int .i64 0)) (fun b => w.heap.size ≤ b) :=
              (Keeps.setCell (X' := fun b => w3.heap.size ≤ b) (p := ⟨w.heap.size, 0, none⟩) _ (fun b h => by simp only; omega) (fun _ h _ => h)).trans (Keeps.setCell (p := ⟨w.heap.size, 1, none⟩) _ (fun b h => by simp only; omega) (fun _ h _ => by omega))
            have HHE := Lib.hid (HHD.out.keep hk2)
            have HBE := Lib.hid ((HBW.out.setCell (p := ⟨w.heap.size, 0, none⟩) (by simp) (.int .i64 5)).setCell (p := ⟨w.heap.size, 1, none⟩) (by simp) (.int .i64 0))
            have HBE2 := Lib.hid ((HBW.out.setCell (p := ⟨w.heap.size, 0, none⟩) (by simp) (.int .i64 0)).setCell (p := ⟨w.heap.size, 1, none⟩) (by simp) (.int .i64 0))
            clear hho hb HP hk2 HHD HHO hjE
            generalize headsUpto l (edgeP l) j = H at *
            by_cases h4 : 400 < H.length
            · have HP3 := Lib.hid (HP2.out.trans (if_pos h4))
              go_wp2_with fail
              rw [HP3.out]
              refine bodyPost_ret (v := .tuple #[.slice none 0 0, .agg #[.int .i64 5, .int .i64 0]]) (by simp [results, Try.results68, go_sem, a0, a1]) rfl ⟨⟨_, rfl, ?_⟩, HBE.out⟩
              exact ⟨none, 0, 0, rfl, ⟨[], rfl, rfl, by simp, by simp, by simp, fun h => absurd h (Nat.lt_irrefl 0)⟩, Nat.zero_le _⟩
            · have HP3 := Lib.hid (HP2.out.trans (if_neg h4))
              go_wp2_with fail
              rw [HP3.out]
              exact bodyPost_ret (v := .tuple #[.slice Av10 H.length cv10, .agg #[.int .i64 0, .int .i64 0]]) (by simp [results, Try.results68, go_sem, a0, a1]) rfl ⟨⟨_, rfl, HHE.out⟩, HBE2.out⟩
  · have HP := Lib.hid (show compP l = ([], (r1, r2)) by unfold compP; rw [hR, if_pos hz])
    clear hR
    go_enter Try.func68, Try.ntmps68
    go_wp2_with fail
    refine (HW.out _ HB0.out).mono ?_
    rintro e w1 ⟨rfl, hb1⟩
    have HF1 := Lib.hid (Blk.below HF0.out hb1 HF0.out.lt)
    have HB1 := Lib.hid (HB0.out.trans (hb1.mono HB0.out.size))
    clear hb1 HF0 HB0 HW
    go_upto_region 3 with fail
    have HB2 := Lib.hid (HB1.out.alloc HB1.out.size (.cells #[.int .i64 r1, .int .i64 r2] 28))
    have hx := Blk.alloc HF1.out (.cells #[.int .i64 r1, .int .i64 r2] 28)
    have hy := Blk.new w1 28 #[.int .i64 r1, .int .i64 r2]
    have hxy := HF1.out.lt
    generalize (w1.alloc (.cells #[.int .i64 r1, .int .i64 r2] 28)) = W3 at *
    have a0 := hx.cell 0
    have a1 := hx.cell 1
    have e0 := hy.cell 0
    have e1 := hy.cell 1
    have f0 := hx.frozen 0
    have f1 := hx.frozen 1
    clear hx hy
    go_region
    all_goals
      go_wp2_with fail
      rw [HP.out]
      refine bodyPost_ret (v := .tuple #[.slice none 0 0, .agg #[.int .i64 r1, .int .i64 r2]]) (by simp [results, Try.results68, go_sem, a0, a1]) rfl ⟨⟨_, rfl, ?_⟩, ?_⟩
      · exact ⟨none, 0, 0, rfl, ⟨[], rfl, rfl, by simp, by simp, by simp, fun h => absurd h (Nat.lt_irrefl 0)⟩, Nat.zero_le _⟩
      · exact ((HB2.out.setCell (p := ⟨w.heap.size, 0, none⟩) (by simp) _).setCell (p := ⟨w.heap.size, 1, none⟩) (by simp) _).drew

end Go.Proofs.Ytfmebbnccjaadaa
