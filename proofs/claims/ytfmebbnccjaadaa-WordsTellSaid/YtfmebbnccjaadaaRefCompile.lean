/- The walk of scriptref10.Compile: it tells compP. -/
import Derived.Test.YtfmebbnccjaadaaHeadsMem
import Derived.Test.YtfmebbnccjaadaaEdgesBoth
namespace Go.Proofs.Ytfmebbnccjaadaa
open Go.RowKit

theorem edges_all (l : List RuleD) : edgesAll (l.map firstSet) = edgeP l := by
  unfold edgesAll edgeP edgesL
  rw [List.flatMap_map]
theorem ref_step_nil {l : List RuleD} {E : List Int} {j : Nat} {r : Int} (h : headsUpto l E j = []) (hr : E[j]? = some r) : setLast (headsUpto l E (j + 1)) 1114111 = [⟨r, 1114111, beginP l r⟩] := by
  rw [headsUpto_succ hr, h]
  rfl
theorem ref_step_same {l : List RuleD} {E : List Int} {j : Nat} {r : Int} {i : List HeadD} {x : HeadD} (h : headsUpto l E j = i ++ [x]) (hr : E[j]? = some r) (hx : (x.rules == beginP l r) = true) :
    setLast (headsUpto l E (j + 1)) 1114111 = i ++ [{ x with high := 1114111 }] := by
  rw [headsUpto_succ hr, h, stepH, lastRules_snoc, if_pos hx, setLast_snoc, setLast_snoc]
theorem ref_step_more {l : List RuleD} {E : List Int} {j : Nat} {r : Int} {i : List HeadD} {x : HeadD} (h : headsUpto l E j = i ++ [x]) (hr : E[j]? = some r) (hx : (x.rules == beginP l r) = false) :
    setLast (headsUpto l E (j + 1)) 1114111 = i ++ [{ x with high := r - 1 }] ++ [⟨r, 1114111, beginP l r⟩] := by
  have hxh : x.high = r - 1 := by
    have hlt := (List.getElem?_eq_some_iff.1 hr).1
    cases j with
    | zero => rw [headsUpto] at h; simp at h
    | succ j =>
      obtain ⟨i', x', h', hh⟩ := headsUpto_last (l := l) (E := E) (j := j) (by omega)
      rw [h] at h'
      have := List.append_inj' h' rfl
      have hxx : x = x' := by simpa using this.2
      rw [hxx, hh]
      unfold gapEnd
      rw [hr]
  rw [headsUpto_succ hr, h, stepH, lastRules_snoc, if_neg (by rw [hx]; decide), setLast_snoc]
  congr 2
  rw [← hxh]
theorem last_max {l : List RuleD} {E : List Int} : setLast (headsP l E) 1114111 = headsP l E := by
  unfold headsP
  cases hE : E.length with
  | zero => rfl
  | succ j =>
    obtain ⟨i, x, h, hh⟩ := headsUpto_last (l := l) (E := E) (j := j) (by omega)
    rw [h, setLast_snoc]
    have : x.high = 1114111 := by
      rw [hh]
      unfold gapEnd
      rw [List.getElem?_eq_none (by omega)]
    rw [← this]
theorem setLast_len (acc : List HeadD) (h : Int) : (setLast acc h).length = acc.length := by
  rcases List.eq_nil_or_concat acc with rfl | ⟨i, x, rfl⟩
  · rfl
  · rw [List.concat_eq_append, setLast_snoc]; simp

theorem infoSpans : (Try.prog.info? 48).map (fun i => (i.zero, i.size, i.bytes)) = some (some (.slice none 0 0), 1, 24) := by kernel_rfl
theorem firsts_len {l : List RuleD} {k : Nat} (h : k ≤ l.length) : ((l.take k).map firstSet).length = k := by simp; omega
theorem firsts_snoc {l : List RuleD} {k : Nat} {x : RuleD} (h : l[k]? = some x) : (l.take k).map firstSet ++ [firstSet x] = (l.take (k + 1)).map firstSet := by
  rw [List.take_add_one, h]
  simp
def RcA (w : World) (l : List RuleD) (n : Nat) (s5 i : Value) (wr : World) : Prop :=
  ∃ k : Nat, k ≤ n ∧ i = .int .i64 k ∧ OwnL (SetC wr (fun b => b < w.heap.size)) 48 1 wr w.heap.size s5 ((l.take k).map firstSet) ∧ Blk wr w.heap.size 28 #[.int .i64 0, .int .i64 0] ∧ Below w.heap.size w wr
def RcB (w0 : World) (l : List RuleD) (n : Nat) (s7 i : Value) (wr : World) : Prop :=
  ∃ j : Nat, j ≤ n ∧ i = .int .i64 j ∧ HeadsO w0.heap.size wr s7 (setLast (headsUpto l (edgeP l) j) 1114111) ∧ Below w0.heap.size w0 wr

set_option maxRecDepth 100000 in
set_option maxHeartbeats 3200000 in
theorem ref_compile (X : Nat → Prop) (l : List RuleD) (A : Option Addr) (n c : Nat) (w : World) (hn : n ≤ maxLen) (hl : ListX (RuleC w X) w X 7 A n l) :
    Calls Try.prog 13 #[.slice A n c] w fun e w' => (∃ v, e = .returned (.tuple #[v, .agg #[.int .i64 (compP l).2.1, .int .i64 (compP l).2.2]]) ∧ HeadsV w' (fun b => w.heap.size ≤ b) (compP l).1 v) ∧ Below w.heap.size w w' := by
  obtain ⟨i0, hi, q0, q1, q2⟩ := info_parts infoHead
  have hl := hl.keep (Keeps.refl (w := w) (X := X) (X' := X) (fun _ h => h)) (fun _ _ h => h)
  have HLEN := Lib.hid (show l.length = n from hl.len)
  have HL := Lib.hid (hl.keep (show Keeps w X w (fun b => b < w.heap.size) from fun b _ hlt => ⟨rfl, hlt, hlt⟩) (fun _ _ => RuleC.keep (show Keeps w X w (fun b => b < w.heap.size) from fun b _ hlt => ⟨rfl, hlt, hlt⟩)))
  have HF0 := Lib.hid (Blk.new w 28 #[.int .i64 0, .int .i64 0])
  have HB0 := Lib.hid ((Below.refl w.heap.size w).alloc (Nat.le_refl _) (.cells #[.int .i64 0, .int .i64 0] 28))
  obtain ⟨r1, r2, hR⟩ : ∃ r1 r2, rulesW l = (r1, r2) := ⟨_, _, rfl⟩
  have HW := Lib.hid (fun (w1 : World) (hb : Below w.heap.size w w1) => show Calls Try.prog 41 #[.slice A n c] w1 fun e w' => e = .returned (.agg #[.int .i64 r1, .int .i64 r2]) ∧ Below w1.heap.size w1 w' by
    have := ref8_wrong (fun b => b < w.heap.size) l A n c w1 hn (HL.out.keep (Keeps.below hb (fun _ h _ => h)) (fun _ _ => RuleC.keep (Keeps.below hb (fun _ h _ => h))))
    rwa [hR] at this)
  clear hl
  simp only [maxLen] at hn
  by_cases hz : r1 = 0
  · subst hz
    have HRR := Lib.hid (right_rules (l := l) (by rw [hR]))
    have HP := Lib.hid (show compP l = if 400 < (headsP l (edgeP l)).length then ([], (5, 0)) else (headsP l (edgeP l), (0, 0)) by unfold compP; rw [hR]; rfl)
    have hn2 : n ≤ 200 := by rw [← HLEN.out]; exact HRR.out.size
    clear hR
    go_enter Try.func13, Try.ntmps13
    go_wp2_with fail
    refine (HW.out _ HB0.out).mono ?_
    rintro e w1 ⟨rfl, hb1⟩
    have HF1 := Lib.hid (Blk.below HF0.out hb1 HF0.out.lt)
    have HB1 := Lib.hid (HB0.out.trans (hb1.mono HB0.out.size))
    clear hb1 HF0 HB0 HW
    have HF2 := Lib.hid (Blk.alloc HF1.out (.cells #[.int .i64 0, .int .i64 r2] 28))
    have HB2 := Lib.hid (HB1.out.alloc HB1.out.size (.cells #[.int .i64 0, .int .i64 r2] 28))
    go_wp2_with fail
    go_loopw [5, 20] (RcA w l n) (fun _ i _ => n - (intOf i).toNat)
    case atStart => exact ⟨0, Nat.zero_le _, rfl, OwnL.nil _ _, HF2.out, HB2.out⟩
    case round =>
      obtain ⟨k, hk, rfl, hown, hf, hb⟩ := hrel
      have hz := hb.size
      by_cases hlt : k < n
      · obtain ⟨x, hx⟩ : ∃ z, l[k]? = some z := ⟨_, List.getElem?_eq_getElem (by rw [HLEN.out]; exact hlt)⟩
        have hmem := List.mem_of_getElem? hx
        have hkk := Keeps.below (X := fun b => b < w.heap.size) (X' := fun b => b < w.heap.size) hb (fun _ h _ => h)
        obtain ⟨b, off, A1, A2, A3, A4, n1, c1, n2, c2, n3, c3, n4, c4, rfl, _, hbb, ⟨d0, d1, d2, d3, d4, d5, d6⟩, _, s2, _, _, _⟩ := rule_at (HL.out.keep hkk (fun _ _ => RuleC.keep hkk)) hx
        obtain ⟨b2, off2, n2', c2', A', n', c', e2, hn2, hn2m, _, _, hcx, _, hrd, hnn⟩ := first_at s2 (HRR.out.src x hmem)
        cases e2
        obtain ⟨css, k1, k2, k3, k4⟩ := hown
        have hkl := firsts_len (l := l) (k := k) (by rw [HLEN.out]; omega)
        rw [hkl] at k1 k4
        obtain ⟨Av, cv, rfl, _⟩ := own_form k4
        have HSN := Lib.hid (firsts_snoc hx)
        have HO := Lib.hid (World.ownsRow.alloc k4 (.cells #[.slice A' n' c'] 48))
        have HB3 := Lib.hid (hb.alloc hb.size (.cells #[.slice A' n' c'] 48))
        have HF3 := Lib.hid (hf.alloc (.cells #[.slice A' n' c'] 48))
        have hka := Keeps.alloc (w := wr) (X := fun b => b < w.heap.size) (X' := fun b => b < w.heap.size) (.cells #[.slice A' n' c'] 48) (fun _ h _ => h)
        have HK := Lib.hid (And.intro k1 (And.intro (fun (i : Nat) (a : Spans) (cs : List Value) h1 h2 => SetC.keep hka (k2 i a cs h1 h2)) (And.intro k3 (show SetC (wr.alloc (.cells #[.slice A' n' c'] 48)) (fun b => b < w.heap.size) (firstSet x) [.slice A' n' c'] from ⟨_, rfl, A', n', c', rfl, hrd.keep hka, hnn⟩))))
        have HN := Lib.hid (Rd.new wr 48 1 1 [.slice A' n' c'] rfl)
        have H1C := Lib.hid (show ∀ u ∈ [Value.slice A' n' c'], u.oneCell' = true by intro x hx; simp at hx; subst hx; rfl)
        have HKL := Lib.hid hkl
        simp only [maxLen] at hn2m
        obtain ⟨j0, hj, hj0, hj1, hj2⟩ := info_parts infoSpans
        clear hx hmem s2 hrd k1 k2 k3 k4 hb hf d0 d1 d2 d4 d5 d6 hkk hka hkl
        go_wp2_with (at_builtin; refine wpList_append_rd _ rfl (.tmp 23) (.tmp 31) 77 rfl w.heap.size 48 j0 _ 1 24 Try.underlying77 hj hj0 hj1 hj2 rfl (by decide) _ _ _ rfl HO.out _ (some ⟨wr.heap.size, 0, none⟩) 1 1 [.slice A' n' c'] rfl HN.out H1C.out (by simp only [maxLen]; omega) (by omega) HB3.out.size ?_)
        intro v9 w9 happ
        have hb9 := HB3.out.trans (happ.below HB3.out.size HO.out)
        have hk9 : Keeps (wr.alloc (.cells #[.slice A' n' c'] 48)) (fun b => b < w.heap.size) w9 (fun b => b < w.heap.size) := Keeps.app happ (fun b hb e => by have := (own_lt HO.out e).1; omega) (fun _ h _ => h)
        have HF9 := Lib.hid (blk_app HF3.out HO.out (by decide) happ)
        have HB9 := Lib.hid hb9
        have HO9 := Lib.hid (show OwnL (SetC w9 (fun b => b < w.heap.size)) 48 1 w9 w.heap.size v9 ((l.take (k + 1)).map firstSet) by
          have := OwnL.push (R := SetC (wr.alloc (.cells #[.slice A' n' c'] 48)) (fun b => b < w.heap.size)) (by rw [HKL.out]; exact HK.out.1) HK.out.2.1 HK.out.2.2.1 (fun _ _ => SetC.keep hk9) (SetC.keep hk9 HK.out.2.2.2) rfl (by rw [HKL.out]; exact happ)
          rwa [HSN.out] at this)
        clear happ hk9 hb9
        go_wp2_with fail
        exact ⟨⟨k + 1, by omega, by go_num, HO9.out, HF9.out, HB9.out⟩, by simp [intOf]; omega⟩
      · obtain rfl : k = n := by omega
        have hkl := firsts_len (l := l) (k := k) (by rw [HLEN.out]; omega)
        obtain ⟨Av, cv, rfl, _⟩ := OwnL.form hown
        have hrd := OwnL.done (X := Any0) (R' := SetC wr Any0) hown (fun _ _ => SetC.keep (Keeps.refl (fun _ _ => trivial))) (fun _ _ => trivial)
        rw [show (l.take k).map firstSet = l.map firstSet by rw [List.take_of_length_le (by rw [HLEN.out]; exact Nat.le_refl _)]] at hrd hkl
        rw [hkl] at hrd
        have HE := Lib.hid (ref_edges Any0 (l.map firstSet) Av k cv wr hn2 (fun s hs => by obtain ⟨x, hx, rfl⟩ := List.mem_map.1 hs; exact HRR.out.set x hx) hrd)
        have HF3 := Lib.hid hf
        have HB3 := Lib.hid hb
        have hkl2 := firsts_len (l := l) (k := k) (by rw [HLEN.out]; omega)
        rw [hkl2]
        clear hf hb hrd hown hkl hkl2 HF1 HB1 HF2 HB2
        go_wp2_with fail
        refine HE.out.mono ?_
        rintro e w2 ⟨⟨A', n', c', rfl, hE⟩, hb2⟩
        rw [edges_all] at hE
        have HEL := Lib.hid (show (edgeP l).length = n' by have := hE.1; rw [runeCells_length] at this; omega)
        have hEN : n' ≤ 80001 := by
          rw [← HEL.out]
          have h1 := (foldPut_len (edgesL l) [0]).2
          have h2 := edgesL_len HRR.out.set
          unfold edgeP
          rw [HLEN.out] at h2
          simp at h1
          omega
        have HEE := Lib.hid (show RdR w2 w2.heap.size A' n' (edgeP l) from hE.of)
        have HF4 := Lib.hid (Blk.below HF3.out hb2 HF3.out.lt)
        have HB4 := Lib.hid (HB3.out.trans (hb2.mono HB3.out.size))
        have hz2 := hb2.size
        clear hE hb2 HE HF3 HB3
        go_wp2_with fail
        go_loopw [7, 37] (RcB w2 l n') (fun _ i _ => n' - (intOf i).toNat)
        case atStart => exact ⟨0, Nat.zero_le _, rfl, HeadsO.nil _ _, Below.refl _ _⟩
        case round =>
          obtain ⟨j, hj, rfl, hho, hb⟩ := hrel
          have hz3 := hb.size
          have HBW := Lib.hid (HB4.out.trans (hb.mono HB4.out.size))
          by_cases hlt : j < n'
          · obtain ⟨r, hr⟩ : ∃ z, (edgeP l)[j]? = some z := ⟨_, List.getElem?_eq_getElem (by rw [HEL.out]; exact hlt)⟩
            obtain ⟨b, off, rfl, hbb, hc0⟩ := HEE.out.at (k := j) hlt
            rw [show (edgeP l).getD j 0 = r by simp [List.getD, hr]] at hc0
            have hc := (hb.cell (p := ⟨b, off + j, none⟩) hbb).trans hc0
            have hkk := Keeps.below (X := fun b => b < w.heap.size) (X' := fun b => b < w.heap.size) HBW.out (fun _ h _ => h)
            have HBG := Lib.hid (ref_begin (fun b => b < w.heap.size) l r A k c wr HRR.out (HL.out.keep hkk (fun _ _ => RuleC.keep hkk)))
            have HR := Lib.hid hr
            have hjl : j < (edgeP l).length := by rw [HEL.out]; exact hlt
            have hr0 : 0 ≤ r ∧ r ≤ 1114111 := by
              have := (edgeP_mem l r).1 (List.mem_of_getElem? hr)
              rcases this with rfl | ⟨h1, h2⟩
              · decide
              · exact ⟨(edgesL_mem HRR.out.set r h1).1, h2⟩
            have hal := headsUpto_len l (edgeP l) j
            have HHO := Lib.hid hho
            have HB := Lib.hid hb
            obtain ⟨Av7, cv7, rfl, _⟩ := hho.form
            rw [setLast_len]
            clear hr hc0 hkk hho hb hjl
            rcases List.eq_nil_or_concat (headsUpto l (edgeP l) j) with hacc | ⟨i, x, hacc⟩
            · have HNX := Lib.hid (ref_step_nil hacc HR.out)
              rw [hacc] at HHO ⊢
              clear hacc hal
              go_wp2_with fail
              refine HBG.out.mono ?_
              rintro e w3 ⟨⟨v10, rfl, hi10⟩, hb3⟩
              have HI := Lib.hid hi10
              have HB5 := Lib.hid (HB.out.trans (hb3.mono HB.out.size))
              have HHO3 := Lib.hid (HHO.out.below hb3)
              obtain ⟨A10, c10, rfl, _, _, _⟩ := hi10.form
              have hz5 := hb3.size
              obtain ⟨xs, ho, hf⟩ := HeadsO.ready (hs := []) HHO3.out HI.out HB5.out.size hz3 r 1114111
              have HO := Lib.hid ho
              have HFF := Lib.hid hf
              have HN := Lib.hid (Rd.new w3 87 3 1 [.int .i32 r, .int .i32 1114111, .slice A10 (beginP l r).length c10] rfl)
              have H1C := Lib.hid (show ∀ u ∈ [Value.int .i32 r, .int .i32 1114111, .slice A10 (beginP l r).length c10], u.oneCell' = true by intro x hx; simp at hx; rcases hx with rfl | rfl | rfl <;> rfl)
              clear ho hf
              go_wp2_with (at_builtin; refine wpList_append_rd _ rfl (.tmp 66) (.tmp 70) 32 rfl w2.heap.size 87 i0 _ 3 32 Try.underlying32 hi q0 q1 q2 rfl (by decide) _ 0 _ rfl HO.out _ (some ⟨w3.heap.size, 0, none⟩) 1 1 _ rfl HN.out H1C.out (by simp only [maxLen]; omega) (by omega) (by simp; omega) ?_)
              intro v9 w9 happ
              have h9 := HFF.out _ _ _ rfl happ
              rw [List.nil_append, ← HNX.out] at h9
              have HH9 := Lib.hid h9.1
              have HB9 := Lib.hid (HB5.out.trans h9.2)
              clear happ h9
              go_wp2_with fail
              exact ⟨⟨j + 1, by omega, by go_num, HH9.out, HB9.out⟩, by simp [intOf]; omega⟩
            · rw [List.concat_eq_append] at hacc
              rw [hacc, setLast_snoc] at HHO
              rw [hacc] at hal ⊢
              obtain ⟨g, cg, Ag, cg', e2, hcg, hgl, hgs, g1, gf, g2, gr, _⟩ := HHO.out.last
              simp only [List.length_append, List.length_cons, List.length_nil, Nat.zero_add, Value.slice.injEq, true_and] at e2
              obtain ⟨rfl, rfl⟩ := e2
              simp only [List.length_append, List.length_cons, List.length_nil, Nat.zero_add] at hal ⊢
              have hho2 := HHO.out
              simp only [List.length_append, List.length_cons, List.length_nil, Nat.zero_add] at hho2
              have HHO := Lib.hid hho2
              clear gr g1 gf g2 hho2
              generalize hm : i.length = m at *
              have HM := Lib.hid hm
              have HACC := Lib.hid hacc
              clear hm hacc
              have HCMP := Lib.hid (fun (W : World) (C D : Option Addr) (c1 d1 : Nat) (h1 : RdI W W.heap.size C x.rules.length x.rules) (h2 : RdI W W.heap.size D (beginP l r).length (beginP l r)) (hx : x.rules.length ≤ 9223372036854775807) =>
                ref9_same C D x.rules.length (beginP l r).length c1 d1 x.rules (beginP l r) W hx h1 h2)
              cases hsame : x.rules == beginP l r
              · have HNX := Lib.hid (ref_step_more HACC.out HR.out hsame)
                rw [hsame] at HCMP
                clear hsame
                go_wp2_with fail
                refine HBG.out.mono ?_
                rintro e w3 ⟨⟨v10, rfl, hi10⟩, hb3⟩
                have HB5 := Lib.hid (HB.out.trans (hb3.mono HB.out.size))
                have HHO3 := Lib.hid (HHO.out.below hb3)
                have hne : ∀ b, IntB wr.heap.size w3 b → ((w3.drewN 0).setCell ⟨g, m * 3 + 1, none⟩ (.int .i32 (r - 1))).heap[b]? = w3.heap[b]? := fun b hb => Below.heap_setCell _ _ _ _ (by
                  have := hb.1
                  simp only
                  omega)
                obtain ⟨A10, c10, rfl, hrd10, _, _⟩ := hi10.form
                obtain ⟨g', cg2, Ag2, cg2', e2, _, _, _, g1, gf, g2, gr2, hxl⟩ := HHO3.out.last
                rw [HM.out] at e2 g1 gf g2
                cases e2
                simp only [maxLen] at hxl
                have HCM := Lib.hid (HCMP.out w3 _ _ cg2' c10 gr2 hrd10 (by omega))
                have HI := Lib.hid hi10
                have HNE := Lib.hid hne
                clear hi10 hne hb3 hrd10 gr2 HCMP
                have hge : decide ((0 : Int) ≤ (m : Int)) = true := decide_eq_true (by omega)
                go_wp2_with fail
                refine HCM.out.mono ?_
                rintro e w4 ⟨rfl, kq, rfl⟩
                have hh := HeadsO.setHigh (HHO3.out.below (w' := w3.drewN kq) (below_drewN (Below.refl _ _) kq)) (r - 1)
                rw [HM.out] at hh
                have HH5 := Lib.hid hh.1
                have HB6 := Lib.hid ((below_drewN HB5.out kq).trans hh.2)
                have HI5 := Lib.hid (HI.out.keep (IntB.keeps (w' := (w3.drewN kq).setCell ⟨g, m * 3 + 1, none⟩ (.int .i32 (r - 1))) (fun b hb _ => HNE.out b hb) (by simp)))
                clear hh
                have g1' : (w3.drewN kq).cell? ⟨g, m * 3 + 1, none⟩ = some (.int .i32 1114111) := g1
                have gf' : (w3.drewN kq).frozen? ⟨g, m * 3 + 1, none⟩ = false := gf
                have hwz : w2.heap.size ≤ ((w3.drewN kq).setCell ⟨g, m * 3 + 1, none⟩ (.int .i32 (r - 1))).heap.size := HB6.out.size
                obtain ⟨xs, ho, hf⟩ := HeadsO.ready HH5.out HI5.out hwz hz3 r 1114111
                rw [show (i ++ [({ low := x.low, high := r - 1, rules := x.rules } : HeadD)]).length = m + 1 by simp [HM.out]] at ho hf
                have HO := Lib.hid ho
                have HFF := Lib.hid hf
                have hsz : ((w3.drewN kq).setCell ⟨g, m * 3 + 1, none⟩ (.int .i32 (r - 1))).heap.size = w3.heap.size := by simp
                have hnew := Rd.new ((w3.drewN kq).setCell ⟨g, m * 3 + 1, none⟩ (.int .i32 (r - 1))) 87 3 1 [.int .i32 r, .int .i32 1114111, .slice A10 (beginP l r).length c10] rfl
                rw [hsz] at hnew hwz
                have HN := Lib.hid hnew
                clear hnew
                have H1C := Lib.hid (show ∀ u ∈ [Value.int .i32 r, .int .i32 1114111, .slice A10 (beginP l r).length c10], u.oneCell' = true by intro x hx; simp at hx; rcases hx with rfl | rfl | rfl <;> rfl)
                clear ho hf
                go_wp2_with (at_builtin; refine wpList_append_rd _ rfl (.tmp 66) (.tmp 70) 32 rfl w2.heap.size 87 i0 _ 3 32 Try.underlying32 hi q0 q1 q2 rfl (by decide) _ (m + 1) _ rfl HO.out _ (some ⟨w3.heap.size, 0, none⟩) 1 1 _ rfl HN.out H1C.out (by simp only [maxLen]; omega) (by omega) (by simp; omega) ?_)
                intro v9 w9 happ
                have h9 := HFF.out _ _ _ rfl happ
                rw [← HNX.out] at h9
                have HH9 := Lib.hid h9.1
                have HB9 := Lib.hid (HB6.out.trans h9.2)
                clear happ h9
                go_wp2_with fail
                exact ⟨⟨j + 1, by omega, by go_num, HH9.out, HB9.out⟩, by simp [intOf]; omega⟩
              · have HNX := Lib.hid (ref_step_same HACC.out HR.out hsame)
                rw [hsame] at HCMP
                clear hsame
                go_wp2_with fail
                refine HBG.out.mono ?_
                rintro e w3 ⟨⟨v10, rfl, hi10⟩, hb3⟩
                have HB5 := Lib.hid (HB.out.trans (hb3.mono HB.out.size))
                have HHO3 := Lib.hid (HHO.out.below hb3)
                obtain ⟨A10, c10, rfl, hrd10, _, _⟩ := hi10.form
                obtain ⟨g', cg2, Ag2, cg2', e2, _, _, _, g1, gf, g2, gr2, hxl⟩ := HHO3.out.last
                rw [HM.out] at e2 g1 gf g2
                cases e2
                simp only [maxLen] at hxl
                have HCM := Lib.hid (HCMP.out w3 _ _ cg2' c10 gr2 hrd10 (by omega))
                clear hi10 hb3 hrd10 gr2 HCMP
                have hge : decide ((0 : Int) ≤ (m : Int)) = true := decide_eq_true (by omega)
                go_wp2_with fail
                refine HCM.out.mono ?_
                rintro e w4 ⟨rfl, kq, rfl⟩
                have HH9 := Lib.hid (HHO3.out.below (w' := w3.drewN kq) (below_drewN (Below.refl _ _) kq))
                have HB9 := Lib.hid (below_drewN HB5.out kq)
                rw [← HNX.out] at HH9
                go_wp2_with fail
                exact ⟨⟨j + 1, by omega, by go_num, HH9.out, HB9.out⟩, by simp [intOf]; omega⟩
          · obtain rfl : j = n' := by omega
            have hmx := last_max (l := l) (E := edgeP l)
            unfold headsP at hmx
            rw [HEL.out] at hmx
            rw [hmx] at hho
            have hal := headsUpto_len l (edgeP l) j
            have HP2 := Lib.hid (HP.out.trans (by rw [show headsP l (edgeP l) = headsUpto l (edgeP l) j by unfold headsP; rw [HEL.out]]))
            have HBF := Lib.hid (HB4.out.trans (hb.mono HB4.out.size))
            have HFL := Lib.hid (Blk.below HF4.out hb HF4.out.lt)
            have HHD := Lib.hid (hho.done (by simp only [maxLen]; omega))
            obtain ⟨Av7, cv7, rfl, _⟩ := hho.form
            have a0 := HFL.out.cell 0
            have a1 := HFL.out.cell 1
            have f0 := HFL.out.frozen 0
            have f1 := HFL.out.frozen 1
            have hfl := HFL.out.lt
            have hbel := (HBF.out.setCell (p := ⟨w.heap.size, 0, none⟩) (by simp) (.int .i64 5)).setCell (p := ⟨w.heap.size, 1, none⟩) (by simp) (.int .i64 0)
            have hbel2 := (HBF.out.setCell (p := ⟨w.heap.size, 0, none⟩) (by simp) (.int .i64 0)).setCell (p := ⟨w.heap.size, 1, none⟩) (by simp) (.int .i64 0)
            have hwlt : w.heap.size < w2.heap.size := HF4.out.lt
            have hk2 : Keeps wr (fun b => w2.heap.size ≤ b) ((wr.setCell ⟨w.heap.size, 0, none⟩ (.int .i64 0)).setCell ⟨w.heap.size, 1, none⟩ (.int .i64 0)) (fun b => w.heap.size ≤ b) :=
              (Keeps.setCell (X' := fun b => w2.heap.size ≤ b) (p := ⟨w.heap.size, 0, none⟩) _ (fun b h => by simp only; omega) (fun _ h _ => h)).trans (Keeps.setCell (p := ⟨w.heap.size, 1, none⟩) _ (fun b h => by simp only; omega) (fun _ h _ => by omega))
            have HHE := Lib.hid (HHD.out.keep hk2)
            have HBE := Lib.hid hbel
            have HBE2 := Lib.hid hbel2
            clear hmx hho hb HP hbel hbel2 hk2 HHD
            generalize headsUpto l (edgeP l) j = H at *
            by_cases h4 : 400 < H.length
            · have HP3 := Lib.hid (HP2.out.trans (if_pos h4))
              go_wp2_with fail
              rw [HP3.out]
              refine bodyPost_ret (v := .tuple #[.slice none 0 0, .agg #[.int .i64 5, .int .i64 0]]) (by simp [results, Try.results13, go_sem, a0, a1]) rfl ⟨⟨_, rfl, ?_⟩, HBE.out⟩
              exact ⟨none, 0, 0, rfl, ⟨[], rfl, rfl, by simp, by simp, by simp, fun h => absurd h (Nat.lt_irrefl 0)⟩, Nat.zero_le _⟩
            · have HP3 := Lib.hid (HP2.out.trans (if_neg h4))
              go_wp2_with fail
              rw [HP3.out]
              exact bodyPost_ret (v := .tuple #[.slice Av7 H.length cv7, .agg #[.int .i64 0, .int .i64 0]]) (by simp [results, Try.results13, go_sem, a0, a1]) rfl ⟨⟨_, rfl, HHE.out⟩, HBE2.out⟩
  · have HP := Lib.hid (show compP l = ([], (r1, r2)) by unfold compP; rw [hR, if_pos hz])
    clear hR
    go_enter Try.func13, Try.ntmps13
    go_wp2_with fail
    refine (HW.out _ HB0.out).mono ?_
    rintro e w1 ⟨rfl, hb1⟩
    have HF1 := Lib.hid (Blk.below HF0.out hb1 HF0.out.lt)
    have HB1 := Lib.hid (HB0.out.trans (hb1.mono HB0.out.size))
    clear hb1 HF0 HB0 HW
    go_upto_region 3 with fail
    have HB2 := Lib.hid (HB1.out.alloc HB1.out.size (.cells #[.int .i64 r1, .int .i64 r2] 28))
    have hx := Blk.alloc HF1.out (.cells #[.int .i64 r1, .int .i64 r2] 28)
    have hy := Blk.new w1 28 #[.int .i64 r1, .int .i64 r2]
    have hxy := HF1.out.lt
    generalize (w1.alloc (.cells #[.int .i64 r1, .int .i64 r2] 28)) = W3 at *
    have a0 := hx.cell 0
    have a1 := hx.cell 1
    have e0 := hy.cell 0
    have e1 := hy.cell 1
    have f0 := hx.frozen 0
    have f1 := hx.frozen 1
    clear hx hy
    go_region
    all_goals
      go_wp2_with fail
      rw [HP.out]
      refine bodyPost_ret (v := .tuple #[.slice none 0 0, .agg #[.int .i64 r1, .int .i64 r2]]) (by simp [results, Try.results13, go_sem, a0, a1]) rfl ⟨⟨_, rfl, ?_⟩, ?_⟩
      · exact ⟨none, 0, 0, rfl, ⟨[], rfl, rfl, by simp, by simp, by simp, fun h => absurd h (Nat.lt_irrefl 0)⟩, Nat.zero_le _⟩
      · exact ((HB2.out.setCell (p := ⟨w.heap.size, 0, none⟩) (by simp) _).setCell (p := ⟨w.heap.size, 1, none⟩) (by simp) _).drew

end Go.Proofs.Ytfmebbnccjaadaa
