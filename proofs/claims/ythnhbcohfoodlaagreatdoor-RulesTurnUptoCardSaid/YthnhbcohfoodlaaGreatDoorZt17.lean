/- SetMeet + SetMerge -/
import Derived.Test.YthnhbcohfoodlaaGreatDoorZt13
import Derived.Test.YthnhbcohfoodlaaGreatDoorZt1
namespace Go.Proofs.YthnhbcohfoodlaaGreatDoor
open Go.RowKit
def lenOf : Value → Nat
 | .slice _ n _ => n
 | _ => 0
theorem spanCells_cons (x : Int × Int) (s : Spans) : spanCells (x :: s) = .int .i32 x.1 :: .int .i32 x.2 :: spanCells s := rfl
theorem rdS_tail {w : World} {B b off n : Nat} {x : Int × Int} {s : Spans} (h : RdS w B (some ⟨b, off, none⟩) (n + 1) (x :: s)) : RdS w B (some ⟨b, off + 2, none⟩) n s := by
 refine ⟨by have := h.1; rw [spanCells_length] at this ⊢; simp at this; omega, fun hn => ?_⟩
 obtain ⟨b', off', e, hb, hc⟩ := h.2 (by omega)
 cases e
 refine ⟨_, _, rfl, hb, fun j u hu => ?_⟩
 rw [Nat.add_assoc, Nat.add_comm 2 j]
 refine hc (j + 2) u ?_
 rw [spanCells_cons]
 exact hu
theorem rdS_tail1 {w : World} {B b off n c : Nat} {x : Int × Int} {s : Spans} (h : RdS w B (some ⟨b, off, none⟩) (n + 1) (x :: s)) (hc : n + 1 ≤ c) : RdS w B (if c = 1 then some ⟨b, off, none⟩ else some ⟨b, off + 2, none⟩) n s := by
 by_cases h1 : c = 1
 ·obtain rfl : n = 0 := by omega
  refine ⟨?_, fun h0 => absurd h0 (by omega)⟩
  have := (rdS_tail h).1
  exact this
 ·rw [if_neg h1]
  exact rdS_tail h
theorem rdS_cons {w : World} {B n : Nat} {A : Option Addr} {s : Spans} (h : RdS w B A (n + 1) s) : ∃ b off x s', A = some ⟨b, off, none⟩ ∧ s = x :: s' ∧ b < B ∧ w.cell? ⟨b, off, none⟩ = some (.int .i32 x.1) ∧ w.cell? ⟨b, off + 1, none⟩ = some (.int .i32 x.2) := by
 have hl := h.len
 cases s with
 | nil => simp at hl
 | cons x s =>
   obtain ⟨b, off, rfl, hb, c0, c1⟩ := h.at (k := 0) (x := x.1) (y := x.2) rfl
   rw [Nat.zero_mul, Nat.add_zero] at c0 c1
   exact ⟨b, off, x, s, rfl, rfl, hb, c0, c1⟩
def SmRel (w : World) (a b : Spans) (va vb out : Value) (wr : World) : Prop :=
 ∃ (A B : Option Addr) (n m c d k : Nat) (a' b' acc : Spans), va = .slice A n c ∧ vb = .slice B m d ∧ RdS w w.heap.size A n a' ∧ RdS w w.heap.size B m b' ∧ n ≤ c ∧ m ≤ d ∧ Canon a' ∧ Canon b' ∧
  wr.ownsRow w.heap.size 74 2 out k (spanCells acc) ∧ k + n + m ≤ 401 ∧ meetP a b = acc ++ meetP a' b' ∧ Below w.heap.size w wr
set_option maxHeartbeats 3200000 in
set_option maxRecDepth 100000 in
theorem sets_meet (A B : Option Addr) (n m c d : Nat) (a b : Spans) (w : World) (hnm : n + m ≤ 401) (hc : n ≤ c) (hd : m ≤ d) (hca : Canon a) (hcb : Canon b) (hla : RdS w w.heap.size A n a) (hlb : RdS w w.heap.size B m b) :
 Calls Tryz.prog 53 #[.slice A n c, .slice B m d] w (SlicePost w (meetP a b) 401) := by
 obtain ⟨i0, hi, z0, z1, z2⟩ := info_parts infoSpan
 have H0 := Lib.hid (show SmRel w a b (.slice A n c) (.slice B m d) (.slice none 0 0) w from ⟨A, B, n, m, c, d, 0, a, b, [], rfl, rfl, hla, hlb, hc, hd, hca, hcb, World.ownsRow_nil _ _ _ _, by omega, rfl, Below.refl _ _⟩)
 clear hla hlb hca hcb
 go_enter Tryz.func53, Tryz.ntmps53
 go_wp2_with fail
 go_loopw [0, 1, 5] (SmRel w a b) (fun x y _ _ => lenOf x + lenOf y)
 case atStart => exact H0.out
 case round =>
  clear H0
  obtain ⟨A, B, n, m, c, d, k, a', b', acc, rfl, rfl, hra, hrb, hnc, hmd, hca, hcb, hown, hk, hgo, hb⟩ := hrel
  have hz := hb.size
  obtain ⟨Av, cv, rfl, hcv⟩ := own_form hown
  rcases n with _ | n
  ·have ha0 : a' = [] := List.eq_nil_of_length_eq_zero hra.len
   rw [ha0, meetP_nil, List.append_nil] at hgo
   have HO := Lib.hid (show wr.ownsRow w.heap.size 74 2 (.slice Av k cv) k (spanCells (meetP a b)) by rw [hgo]; exact hown)
   have HB := Lib.hid hb
   clear hgo hown hra hrb hca hcb ha0 hb
   go_wp2_with fail
   go_ret
   exact ⟨Av, k, cv, rfl, RdX.of_own HO.out (fun b hb => (own_lt HO.out hb).1), by omega, hcv, HB.out⟩
  ·rcases m with _ | m
   ·have ha0 : b' = [] := List.eq_nil_of_length_eq_zero hrb.len
    rw [ha0, meetP_nil2, List.append_nil] at hgo
    have HO := Lib.hid (show wr.ownsRow w.heap.size 74 2 (.slice Av k cv) k (spanCells (meetP a b)) by rw [hgo]; exact hown)
    have HB := Lib.hid hb
    clear hgo hown hra hrb hca hcb ha0 hb
    have hg : decide ((0 : Int) < (n : Int) + 1) = true := decide_eq_true (by omega)
    go_wp2_with fail
    go_ret
    exact ⟨Av, k, cv, rfl, RdX.of_own HO.out (fun b hb => (own_lt HO.out hb).1), by omega, hcv, HB.out⟩
   ·obtain ⟨ba, oa, ⟨x1, x2⟩, a2, rfl, rfl, hba, ca0, ca1⟩ := rdS_cons hra
    obtain ⟨bb, ob, ⟨y1, y2⟩, b2, rfl, rfl, hbb, cb0, cb1⟩ := rdS_cons hrb
    have HRA := Lib.hid hra
    have HRB := Lib.hid hrb
    have HTA := Lib.hid (rdS_tail1 hra hnc)
    have HTB := Lib.hid (rdS_tail1 hrb hmd)
    have da0 := (hb.cell (p := ⟨ba, oa, none⟩) hba).trans ca0
    have da1 := (hb.cell (p := ⟨ba, oa + 1, none⟩) hba).trans ca1
    have db0 := (hb.cell (p := ⟨bb, ob, none⟩) hbb).trans cb0
    have db1 := (hb.cell (p := ⟨bb, ob + 1, none⟩) hbb).trans cb1
    have HCA := Lib.hid hca
    have HCB := Lib.hid hcb
    have HO := Lib.hid hown
    have HB := Lib.hid hb
    have HDA := Lib.hid (fun (W : World) (hw : Below w.heap.size w W) => (hw.cell (p := ⟨ba, oa + 1, none⟩) hba).trans ca1)
    have HDB := Lib.hid (fun (W : World) (hw : Below w.heap.size w W) => (hw.cell (p := ⟨bb, ob + 1, none⟩) hbb).trans cb1)
    rw [meetP_cons] at hgo
    simp only at hgo ca0 ca1 cb0 cb1 da0 da1 db0 db1
    have HG := Lib.hid hgo
    have hg : decide ((0 : Int) < (n : Int) + 1) = true := decide_eq_true (by omega)
    have hg2 : decide ((0 : Int) < (m : Int) + 1) = true := decide_eq_true (by omega)
    clear hra hrb ca0 ca1 cb0 cb1 hown hgo hca hcb hb
    go_wp2_with fail
    go_region
    have HMX := Lib.hid (show max x1 y1 = (if x1 < y1 then y1 else x1) by rw [Int.max_def]; split <;> split <;> omega)
    have HMN := Lib.hid (show min x2 y2 = (if y2 < x2 then y2 else x2) by rw [Int.min_def]; split <;> split <;> omega)
    generalize (if x1 < y1 then y1 else x1) = lo at HMX ⊢
    generalize (if y2 < x2 then y2 else x2) = hi2 at HMN ⊢
    by_cases hlo : lo ≤ hi2
    ·have HO2 := Lib.hid (World.ownsRow.alloc HO.out (.cells #[.int .i32 lo, .int .i32 hi2] 74))
     have HB2 := Lib.hid (HB.out.alloc hz (.cells #[.int .i32 lo, .int .i32 hi2] 74))
     have HN := Lib.hid (Rd.new wr 74 2 1 [.int .i32 lo, .int .i32 hi2] rfl)
     clear da0 da1 db0 db1
     go_wp2_with (at_builtin; refine wpList_append_rd _ rfl (.tmp 37) (.tmp 41) 22 rfl w.heap.size 74 i0 _ 2 8 Tryz.underlying22 hi z0 z1 z2 rfl (by decide) _ _ _ rfl HO2.out (wr.heap.size + 1) (some ⟨wr.heap.size, 0, none⟩) 1 1 [.int .i32 lo, .int .i32 hi2] rfl HN.out (span_one _ _) (by simp only [maxLen]; omega) (by omega) HB2.out.size ?_)
     intro v' w9 happ
     have HB9 := Lib.hid ((below_drew1 HB2.out).trans (happ.below (below_drew1 HB2.out).size HO2.out))
     have HO9 := Lib.hid (show w9.ownsRow w.heap.size 74 2 v' (k + 1) (spanCells (acc ++ [(lo, hi2)])) by rw [spanCells_snoc]; exact happ.own)
     clear happ
     have da1 := HDA.out w9 HB9.out
     have db1 := HDB.out w9 HB9.out
     by_cases hlt : x2 < y2
     ·have HG2 := Lib.hid (show meetP a b = (acc ++ [(lo, hi2)]) ++ meetP a2 ((y1, y2) :: b2) by rw [HG.out, HMX.out, HMN.out, if_pos hlo, if_pos hlt, List.append_assoc])
      go_wp2_with fail
      go_quiet (fail)
      go_wp2_with fail
      exact ⟨⟨_, _, n, m + 1, c - 1, d, k + 1, a2, (y1, y2) :: b2, _, rfl, rfl, HTA.out, HRB.out, by omega, hmd, HCA.out.tail, HCB.out, HO9.out, by omega, HG2.out, below_drewN HB9.out _⟩, by simp [lenOf]⟩
     ·have HG2 := Lib.hid (show meetP a b = (acc ++ [(lo, hi2)]) ++ meetP ((x1, x2) :: a2) b2 by rw [HG.out, HMX.out, HMN.out, if_pos hlo, if_neg hlt, List.append_assoc])
      go_wp2_with fail
      go_quiet (fail)
      go_wp2_with fail
      exact ⟨⟨_, _, n + 1, m, c, d - 1, k + 1, (x1, x2) :: a2, b2, _, rfl, rfl, HRA.out, HTB.out, hnc, by omega, HCA.out, HCB.out.tail, HO9.out, by omega, HG2.out, below_drewN HB9.out _⟩, by simp [lenOf]⟩
    ·by_cases hlt : x2 < y2
     ·have HG2 := Lib.hid (show meetP a b = acc ++ meetP a2 ((y1, y2) :: b2) by rw [HG.out, HMX.out, HMN.out, if_neg hlo, if_pos hlt, List.nil_append])
      clear da0 da1 db0 db1
      have da1 := HDA.out wr HB.out
      have db1 := HDB.out wr HB.out
      go_wp2_with fail
      go_quiet (fail)
      go_wp2_with fail
      exact ⟨⟨_, _, n, m + 1, c - 1, d, k, a2, (y1, y2) :: b2, _, rfl, rfl, HTA.out, HRB.out, by omega, hmd, HCA.out.tail, HCB.out, HO.out, by omega, HG2.out, below_drewN HB.out _⟩, by simp [lenOf]⟩
     ·have HG2 := Lib.hid (show meetP a b = acc ++ meetP ((x1, x2) :: a2) b2 by rw [HG.out, HMX.out, HMN.out, if_neg hlo, if_neg hlt, List.nil_append])
      clear da0 da1 db0 db1
      have da1 := HDA.out wr HB.out
      have db1 := HDB.out wr HB.out
      go_wp2_with fail
      go_quiet (fail)
      go_wp2_with fail
      exact ⟨⟨_, _, n + 1, m, c, d - 1, k, (x1, x2) :: a2, b2, _, rfl, rfl, HRA.out, HTB.out, hnc, by omega, HCA.out, HCB.out.tail, HO.out, by omega, HG2.out, below_drewN HB.out _⟩, by simp [lenOf]⟩
end Go.Proofs.YthnhbcohfoodlaaGreatDoor

namespace Go.Proofs.YthnhbcohfoodlaaGreatDoor
open Go.RowKit
def InRange (s : Spans) : Prop := ∀ x ∈ s, 0 ≤ x.1 ∧ x.1 ≤ x.2 ∧ x.2 ≤ 1114111
theorem mergeStep_range {out : Spans} {x : Int × Int} (h : InRange out) (hx : 0 ≤ x.1 ∧ x.1 ≤ x.2 ∧ x.2 ≤ 1114111) : InRange (mergeStep out x) := by
 rcases List.eq_nil_or_concat out with rfl | ⟨i, k, rfl⟩
 ·rw [mergeStep_nil]
  intro y hy; rw [List.mem_singleton.1 hy]; exact hx
 ·rw [List.concat_eq_append] at h ⊢
  have hk := h k (by simp)
  rw [mergeStep_snoc]
  intro y hy
  split at hy
  ·rcases List.mem_append.1 hy with hy | hy
   ·exact h y (by simp [hy])
   ·rw [List.mem_singleton.1 hy]; simp only; omega
  ·rcases List.mem_append.1 hy with hy | hy
   ·exact h y hy
   ·rw [List.mem_singleton.1 hy]; exact hx
theorem spanCells_setHigh (i : Spans) (k : Int × Int) (y : Int) : (spanCells (i ++ [k])).set (i.length * 2 + 1) (.int .i32 y) = spanCells (i ++ [(k.1, y)]) := by
 rw [spanCells_append, spanCells_append, List.set_append_right _ _ (by rw [spanCells_length]; omega), spanCells_length, show i.length * 2 + 1 - i.length * 2 = 1 by omega]
 rfl
def SgRel (w : World) (l : Spans) (n : Nat) (out i : Value) (wr : World) : Prop :=
 ∃ (j k : Nat) (acc : Spans), j ≤ n ∧ i = .int .i64 j ∧ k ≤ j ∧ wr.ownsRow w.heap.size 74 2 out k (spanCells acc) ∧ acc.length = k ∧ InRange acc ∧ mergedP l = (l.drop j).foldl mergeStep acc ∧ Below w.heap.size w wr
set_option maxHeartbeats 3200000 in
set_option maxRecDepth 100000 in
theorem sets_merged (A : Option Addr) (n c : Nat) (l : Spans) (w : World) (hn : n ≤ 100000) (hr : InRange l) (hl : RdS w w.heap.size A n l) :
 Calls Tryz.prog 93 #[.slice A n c] w (SlicePost w (mergedP l) n) := by
 obtain ⟨i0, hi, z0, z1, z2⟩ := info_parts infoSpan
 have HLEN := Lib.hid hl.len
 have HL := Lib.hid hl
 have HR := Lib.hid hr
 clear hl hr
 go_enter Tryz.func93, Tryz.ntmps93
 go_wp2_with fail
 go_loopw [3, 9] (SgRel w l n) (fun _ i _ => n - (intOf i).toNat)
 case atStart => exact ⟨0, 0, [], Nat.zero_le _, rfl, Nat.le_refl _, World.ownsRow_nil _ _ _ _, rfl, (by intro x hx; simp at hx), rfl, Below.refl _ _⟩
 case round =>
  obtain ⟨j, k, acc, hj, rfl, hk, hown, hkl, hin, hgo, hb⟩ := hrel
  have hz := hb.size
  by_cases hlt : j < n
  ·obtain ⟨⟨x, y⟩, hx⟩ : ∃ z, l[j]? = some z := ⟨_, List.getElem?_eq_getElem (by rw [HLEN.out]; exact hlt)⟩
   obtain ⟨b, off, rfl, hbb, c0, c1⟩ := HL.out.at hx
   have d0 := (hb.cell (p := ⟨b, off + j * 2, none⟩) hbb).trans c0
   have d1 := (hb.cell (p := ⟨b, off + j * 2 + 1, none⟩) hbb).trans c1
   have hxy := HR.out (x, y) (List.mem_of_getElem? hx)
   simp only at hxy
   have HIN := Lib.hid (mergeStep_range (x := (x, y)) hin hxy)
   rw [drop_at hx, List.foldl_cons] at hgo
   have HX := Lib.hid hx
   have HB1 := Lib.hid (hb.alloc hz (.cells #[.int .i32 x, .int .i32 y] 74))
   have HO1 := Lib.hid (World.ownsRow.alloc hown (.cells #[.int .i32 x, .int .i32 y] 74))
   have HOW := Lib.hid hown
   have HY := Lib.hid (Blk.new wr 74 #[.int .i32 x, .int .i32 y])
   have HN := Lib.hid (show Rd ((wr.alloc (.cells #[.int .i32 x, .int .i32 y] 74)).alloc (.cells #[.int .i32 x, .int .i32 y] 74)) (wr.heap.size + 1 + 1) 2 (some ⟨wr.heap.size + 1, 0, none⟩) 1 [.int .i32 x, .int .i32 y] by
    have := Rd.new (wr.alloc (.cells #[.int .i32 x, .int .i32 y] 74)) 74 2 1 [.int .i32 x, .int .i32 y] rfl
    simpa using this)
   have HO2 := Lib.hid (World.ownsRow.alloc HO1.out (.cells #[.int .i32 x, .int .i32 y] 74))
   have HB2 := Lib.hid (HB1.out.alloc HB1.out.size (.cells #[.int .i32 x, .int .i32 y] 74))
   clear hx c0 c1
   rcases List.eq_nil_or_concat acc with rfl | ⟨i, p, rfl⟩
   ·obtain rfl : k = 0 := by simpa using hkl.symm
    have HG := Lib.hid hgo
    obtain ⟨Av, cv, rfl, hcv⟩ := own_form hown
    clear hgo hown hb hin
    have hw0 : IntKind.i64.wrap (((0 : Nat) : Int) - 1) = -1 := by decide
    go_wp2_with fail
    go_quiet (fail)
    go_wp2_with (at_builtin; refine wpList_append_rd _ rfl (.tmp 41) (.tmp 43) 22 rfl w.heap.size 74 i0 _ 2 8 Tryz.underlying22 hi z0 z1 z2 rfl (by decide) _ _ _ rfl HO2.out (wr.heap.size + 1 + 1) (some ⟨wr.heap.size + 1, 0, none⟩) 1 1 [.int .i32 x, .int .i32 y] rfl HN.out (span_one _ _) (by simp only [maxLen]; omega) (by omega) HB2.out.size ?_)
    intro v' w9 happ
    have HB9 := Lib.hid (((below_drewN HB1.out nq).alloc (below_drewN HB1.out nq).size (.cells #[.int .i32 x, .int .i32 y] 74)).trans (happ.below ((below_drewN HB1.out nq).alloc (below_drewN HB1.out nq).size (.cells #[.int .i32 x, .int .i32 y] 74)).size HO2.out))
    have HO9 := Lib.hid (show w9.ownsRow w.heap.size 74 2 v' 1 (spanCells [(x, y)]) from happ.own)
    clear happ
    go_wp2_with fail
    exact ⟨⟨j + 1, 1, [(x, y)], by omega, by go_num, by omega, HO9.out, rfl, HIN.out, HG.out, HB9.out⟩, by simp [intOf]; omega⟩
   ·rw [List.concat_eq_append] at hown hkl hin hgo HIN
    rw [mergeStep_snoc] at hgo HIN
    simp only at hgo HIN
    obtain ⟨m, hm⟩ : ∃ m, i.length = m := ⟨_, rfl⟩
    obtain rfl : k = m + 1 := by rw [← hkl, List.length_append, hm]; rfl
    obtain ⟨p1, p2⟩ := p
    have hp := hin (p1, p2) (by simp)
    simp only at hp hgo HIN
    obtain ⟨g, cv, rfl, hcv, hg, hgl⟩ := own_some hown (by omega)
    have HIL := Lib.hid hm
    have hcell : (spanCells (i ++ [(p1, p2)]))[m * 2 + 1]? = some (.int .i32 p2) := (spanCells_at _ m p1 p2 (by rw [← hm]; simp)).2
    have e0 : (wr.alloc (.cells #[.int .i32 x, .int .i32 y] 74)).cell? ⟨g, m * 2 + 1, none⟩ = some (.int .i32 p2) := by rw [HO1.out.cellAt _ (by omega), List.concat_eq_append]; exact hcell
    have f0 : (wr.alloc (.cells #[.int .i32 x, .int .i32 y] 74)).frozen? ⟨g, m * 2 + 1, none⟩ = false := HO1.out.frozenAt _
    have hw1 : IntKind.i64.wrap (((m + 1 : Nat) : Int) - 1) = (m : Int) := by rw [wrap_small _ (by omega) (by omega)]; omega
    have hk0 : (0 : Int) ≤ (m : Int) := by omega
    have hk1 : (m : Int) < ((m + 1 : Nat) : Int) := by omega
    have hg0 : decide ((0 : Int) ≤ (m : Int)) = true := decide_eq_true hk0
    clear hcell hm hkl hown hin hb
    by_cases hle : x ≤ p2 + 1
    ·rw [if_pos hle] at hgo HIN
     have HG := Lib.hid hgo
     have hd : decide (x ≤ p2 + 1) = true := decide_eq_true hle
     clear hgo
     go_wp2_with fail
     go_quiet (fail)
     go_wp2_with fail
     go_region
     have HMX := Lib.hid (show max p2 y = (if p2 < y then y else p2) by rw [Int.max_def]; split <;> split <;> omega)
     have HO3 := Lib.hid (show (((wr.alloc (.cells #[.int .i32 x, .int .i32 y] 74)).drewN (nq + 1)).setCell ⟨g, m * 2 + 1, none⟩ (.int .i32 (if p2 < y then y else p2))).ownsRow w.heap.size 74 2 (.slice (some ⟨g, 0, none⟩) (m + 1) cv) (m + 1) (spanCells (i ++ [(p1, max p2 y)])) by
      have h0 : ((wr.alloc (.cells #[.int .i32 x, .int .i32 y] 74)).drewN (nq + 1)).ownsRow w.heap.size 74 2 (.slice (some ⟨g, 0, none⟩) (m + 1) cv) (m + 1) (spanCells (i ++ [(p1, p2)])) := by
       have := HO1.out
       rw [List.concat_eq_append] at this
       exact this
      have := (h0.stored (m * 2 + 1) (.int .i32 (if p2 < y then y else p2))).1
      rw [← HIL.out, spanCells_setHigh] at this
      rw [← HIL.out, HMX.out]
      exact this)
     have HB3 := Lib.hid ((below_drewN HB1.out (nq + 1)).setCell (p := ⟨g, m * 2 + 1, none⟩) hg (.int .i32 (if p2 < y then y else p2)))
     go_wp2_with fail
     exact ⟨⟨j + 1, m + 1, i ++ [(p1, max p2 y)], by omega, by go_num, by omega, HO3.out, by simp [HIL.out], HIN.out, HG.out, HB3.out⟩, by simp [intOf]; omega⟩
    ·rw [if_neg hle] at hgo HIN
     have HG := Lib.hid hgo
     have hd : decide (x ≤ p2 + 1) = false := decide_eq_false hle
     clear hgo
     go_wp2_with fail
     go_quiet (fail)
     go_wp2_with (at_builtin; refine wpList_append_rd _ rfl (.tmp 41) (.tmp 43) 22 rfl w.heap.size 74 i0 _ 2 8 Tryz.underlying22 hi z0 z1 z2 rfl (by decide) _ _ _ rfl HO2.out (wr.heap.size + 1 + 1) (some ⟨wr.heap.size + 1, 0, none⟩) 1 1 [.int .i32 x, .int .i32 y] rfl HN.out (span_one _ _) (by simp only [maxLen]; omega) (by omega) HB2.out.size ?_)
     intro v' w9 happ
     have HB9 := Lib.hid (((below_drewN HB1.out nq).alloc (below_drewN HB1.out nq).size (.cells #[.int .i32 x, .int .i32 y] 74)).trans (happ.below ((below_drewN HB1.out nq).alloc (below_drewN HB1.out nq).size (.cells #[.int .i32 x, .int .i32 y] 74)).size HO2.out))
     have HO9 := Lib.hid (show w9.ownsRow w.heap.size 74 2 v' (m + 1 + 1) (spanCells (i ++ [(p1, p2)] ++ [(x, y)])) by have := happ.own; rw [spanCells_snoc (i ++ [(p1, p2)])]; exact this)
     clear happ
     go_wp2_with fail
     exact ⟨⟨j + 1, m + 1 + 1, i ++ [(p1, p2)] ++ [(x, y)], by omega, by go_num, by omega, HO9.out, by simp [HIL.out], HIN.out, HG.out, HB9.out⟩, by simp [intOf]; omega⟩
  ·obtain rfl : j = n := by omega
   rw [List.drop_of_length_le (by rw [HLEN.out]; exact Nat.le_refl _), List.foldl_nil] at hgo
   subst hgo
   obtain ⟨Av, cv, rfl, hcv⟩ := own_form hown
   have HO := Lib.hid hown
   clear hown hin
   go_wp2_with fail
   go_ret
   exact ⟨Av, k, cv, rfl, RdX.of_own HO.out (fun b hb => (own_lt HO.out hb).1), hk, hcv, hb⟩
end Go.Proofs.YthnhbcohfoodlaaGreatDoor
