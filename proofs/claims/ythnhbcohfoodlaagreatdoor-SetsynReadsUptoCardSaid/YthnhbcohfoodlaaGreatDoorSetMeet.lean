/- sets.meet: the walk. -/
import Derived.Test.YthnhbcohfoodlaaGreatDoorSetNot
import Derived.Test.YthnhbcohfoodlaaGreatDoorHeldTill
namespace Go.Proofs.YthnhbcohfoodlaaGreatDoor
open Go.RowKit

def lenOf : Value → Nat
  | .slice _ n _ => n
  | _ => 0
theorem spanCells_cons (x : Int × Int) (s : Spans) : spanCells (x :: s) = .int .i32 x.1 :: .int .i32 x.2 :: spanCells s := rfl
theorem rdS_tail {w : World} {B b off n : Nat} {x : Int × Int} {s : Spans} (h : RdS w B (some ⟨b, off, none⟩) (n + 1) (x :: s)) : RdS w B (some ⟨b, off + 2, none⟩) n s := by
  refine ⟨by have := h.1; rw [spanCells_length] at this ⊢; simp at this; omega, fun hn => ?_⟩
  obtain ⟨b', off', e, hb, hc⟩ := h.2 (by omega)
  cases e
  refine ⟨_, _, rfl, hb, fun j u hu => ?_⟩
  rw [Nat.add_assoc, Nat.add_comm 2 j]
  refine hc (j + 2) u ?_
  rw [spanCells_cons]
  exact hu
theorem rdS_tail1 {w : World} {B b off n c : Nat} {x : Int × Int} {s : Spans} (h : RdS w B (some ⟨b, off, none⟩) (n + 1) (x :: s)) (hc : n + 1 ≤ c) : RdS w B (if c = 1 then some ⟨b, off, none⟩ else some ⟨b, off + 2, none⟩) n s := by
  by_cases h1 : c = 1
  · obtain rfl : n = 0 := by omega
    refine ⟨?_, fun h0 => absurd h0 (by omega)⟩
    have := (rdS_tail h).1
    exact this
  · rw [if_neg h1]
    exact rdS_tail h
theorem rdS_cons {w : World} {B n : Nat} {A : Option Addr} {s : Spans} (h : RdS w B A (n + 1) s) : ∃ b off x s', A = some ⟨b, off, none⟩ ∧ s = x :: s' ∧ b < B ∧ w.cell? ⟨b, off, none⟩ = some (.int .i32 x.1) ∧ w.cell? ⟨b, off + 1, none⟩ = some (.int .i32 x.2) := by
  have hl := h.len
  cases s with
  | nil => simp at hl
  | cons x s =>
    obtain ⟨b, off, rfl, hb, c0, c1⟩ := h.at (k := 0) (x := x.1) (y := x.2) rfl
    rw [Nat.zero_mul, Nat.add_zero] at c0 c1
    exact ⟨b, off, x, s, rfl, rfl, hb, c0, c1⟩

/-- What the loop of meet has done: what is left of both. -/
def SmRel (w : World) (a b : Spans) (va vb out : Value) (wr : World) : Prop :=
  ∃ (A B : Option Addr) (n m c d k : Nat) (a' b' acc : Spans), va = .slice A n c ∧ vb = .slice B m d ∧ RdS w w.heap.size A n a' ∧ RdS w w.heap.size B m b' ∧ n ≤ c ∧ m ≤ d ∧ Canon a' ∧ Canon b' ∧
    wr.ownsRow w.heap.size 74 2 out k (spanCells acc) ∧ k + n + m ≤ 401 ∧ meetP a b = acc ++ meetP a' b' ∧ Below w.heap.size w wr

set_option maxHeartbeats 3200000 in
set_option maxRecDepth 100000 in
theorem sets_meet (A B : Option Addr) (n m c d : Nat) (a b : Spans) (w : World) (hnm : n + m ≤ 401) (hc : n ≤ c) (hd : m ≤ d) (hca : Canon a) (hcb : Canon b) (hla : RdS w w.heap.size A n a) (hlb : RdS w w.heap.size B m b) :
    Calls Tryz.prog 53 #[.slice A n c, .slice B m d] w (SlicePost w (meetP a b) 401) := by
  obtain ⟨i0, hi, z0, z1, z2⟩ := info_parts infoSpan
  have H0 := Lib.hid (show SmRel w a b (.slice A n c) (.slice B m d) (.slice none 0 0) w from ⟨A, B, n, m, c, d, 0, a, b, [], rfl, rfl, hla, hlb, hc, hd, hca, hcb, World.ownsRow_nil _ _ _ _, by omega, rfl, Below.refl _ _⟩)
  clear hla hlb hca hcb
  go_enter Tryz.func53, Tryz.ntmps53
  go_wp2_with fail
  go_loopw [0, 1, 5] (SmRel w a b) (fun x y _ _ => lenOf x + lenOf y)
  case atStart => exact H0.out
  case round =>
    clear H0
    obtain ⟨A, B, n, m, c, d, k, a', b', acc, rfl, rfl, hra, hrb, hnc, hmd, hca, hcb, hown, hk, hgo, hb⟩ := hrel
    have hz := hb.size
    obtain ⟨Av, cv, rfl, hcv⟩ := own_form hown
    rcases n with _ | n
    · have ha0 : a' = [] := List.eq_nil_of_length_eq_zero hra.len
      rw [ha0, meetP_nil, List.append_nil] at hgo
      have HO := Lib.hid (show wr.ownsRow w.heap.size 74 2 (.slice Av k cv) k (spanCells (meetP a b)) by rw [hgo]; exact hown)
      have HB := Lib.hid hb
      clear hgo hown hra hrb hca hcb ha0 hb
      go_wp2_with fail
      go_ret
      exact ⟨Av, k, cv, rfl, RdX.of_own HO.out (fun b hb => (own_lt HO.out hb).1), by omega, hcv, HB.out⟩
    · rcases m with _ | m
      · have ha0 : b' = [] := List.eq_nil_of_length_eq_zero hrb.len
        rw [ha0, meetP_nil2, List.append_nil] at hgo
        have HO := Lib.hid (show wr.ownsRow w.heap.size 74 2 (.slice Av k cv) k (spanCells (meetP a b)) by rw [hgo]; exact hown)
        have HB := Lib.hid hb
        clear hgo hown hra hrb hca hcb ha0 hb
        have hg : decide ((0 : Int) < (n : Int) + 1) = true := decide_eq_true (by omega)
        go_wp2_with fail
        go_ret
        exact ⟨Av, k, cv, rfl, RdX.of_own HO.out (fun b hb => (own_lt HO.out hb).1), by omega, hcv, HB.out⟩
      · obtain ⟨ba, oa, ⟨x1, x2⟩, a2, rfl, rfl, hba, ca0, ca1⟩ := rdS_cons hra
        obtain ⟨bb, ob, ⟨y1, y2⟩, b2, rfl, rfl, hbb, cb0, cb1⟩ := rdS_cons hrb
        have HRA := Lib.hid hra
        have HRB := Lib.hid hrb
        have HTA := Lib.hid (rdS_tail1 hra hnc)
        have HTB := Lib.hid (rdS_tail1 hrb hmd)
        have da0 := (hb.cell (p := ⟨ba, oa, none⟩) hba).trans ca0
        have da1 := (hb.cell (p := ⟨ba, oa + 1, none⟩) hba).trans ca1
        have db0 := (hb.cell (p := ⟨bb, ob, none⟩) hbb).trans cb0
        have db1 := (hb.cell (p := ⟨bb, ob + 1, none⟩) hbb).trans cb1
        have HCA := Lib.hid hca
        have HCB := Lib.hid hcb
        have HO := Lib.hid hown
        have HB := Lib.hid hb
        have HDA := Lib.hid (fun (W : World) (hw : Below w.heap.size w W) => (hw.cell (p := ⟨ba, oa + 1, none⟩) hba).trans ca1)
        have HDB := Lib.hid (fun (W : World) (hw : Below w.heap.size w W) => (hw.cell (p := ⟨bb, ob + 1, none⟩) hbb).trans cb1)
        rw [meetP_cons] at hgo
        simp only at hgo ca0 ca1 cb0 cb1 da0 da1 db0 db1
        have HG := Lib.hid hgo
        have hg : decide ((0 : Int) < (n : Int) + 1) = true := decide_eq_true (by omega)
        have hg2 : decide ((0 : Int) < (m : Int) + 1) = true := decide_eq_true (by omega)
        clear hra hrb ca0 ca1 cb0 cb1 hown hgo hca hcb hb
        go_wp2_with fail
        go_region
        have HMX := Lib.hid (show max x1 y1 = (if x1 < y1 then y1 else x1) by rw [Int.max_def]; split <;> split <;> omega)
        have HMN := Lib.hid (show min x2 y2 = (if y2 < x2 then y2 else x2) by rw [Int.min_def]; split <;> split <;> omega)
        generalize (if x1 < y1 then y1 else x1) = lo at HMX ⊢
        generalize (if y2 < x2 then y2 else x2) = hi2 at HMN ⊢
        by_cases hlo : lo ≤ hi2
        · have HO2 := Lib.hid (World.ownsRow.alloc HO.out (.cells #[.int .i32 lo, .int .i32 hi2] 74))
          have HB2 := Lib.hid (HB.out.alloc hz (.cells #[.int .i32 lo, .int .i32 hi2] 74))
          have HN := Lib.hid (Rd.new wr 74 2 1 [.int .i32 lo, .int .i32 hi2] rfl)
          clear da0 da1 db0 db1
          go_wp2_with (at_builtin; refine wpList_append_rd _ rfl (.tmp 37) (.tmp 41) 22 rfl w.heap.size 74 i0 _ 2 8 Tryz.underlying22 hi z0 z1 z2 rfl (by decide) _ _ _ rfl HO2.out (wr.heap.size + 1) (some ⟨wr.heap.size, 0, none⟩) 1 1 [.int .i32 lo, .int .i32 hi2] rfl HN.out (span_one _ _) (by simp only [maxLen]; omega) (by omega) HB2.out.size ?_)
          intro v' w9 happ
          have HB9 := Lib.hid ((below_drew1 HB2.out).trans (happ.below (below_drew1 HB2.out).size HO2.out))
          have HO9 := Lib.hid (show w9.ownsRow w.heap.size 74 2 v' (k + 1) (spanCells (acc ++ [(lo, hi2)])) by rw [spanCells_snoc]; exact happ.own)
          clear happ
          have da1 := HDA.out w9 HB9.out
          have db1 := HDB.out w9 HB9.out
          by_cases hlt : x2 < y2
          · have HG2 := Lib.hid (show meetP a b = (acc ++ [(lo, hi2)]) ++ meetP a2 ((y1, y2) :: b2) by rw [HG.out, HMX.out, HMN.out, if_pos hlo, if_pos hlt, List.append_assoc])
            go_wp2_with fail
            go_quiet (fail)
            go_wp2_with fail
            exact ⟨⟨_, _, n, m + 1, c - 1, d, k + 1, a2, (y1, y2) :: b2, _, rfl, rfl, HTA.out, HRB.out, by omega, hmd, HCA.out.tail, HCB.out, HO9.out, by omega, HG2.out, below_drewN HB9.out _⟩, by simp [lenOf]⟩
          · have HG2 := Lib.hid (show meetP a b = (acc ++ [(lo, hi2)]) ++ meetP ((x1, x2) :: a2) b2 by rw [HG.out, HMX.out, HMN.out, if_pos hlo, if_neg hlt, List.append_assoc])
            go_wp2_with fail
            go_quiet (fail)
            go_wp2_with fail
            exact ⟨⟨_, _, n + 1, m, c, d - 1, k + 1, (x1, x2) :: a2, b2, _, rfl, rfl, HRA.out, HTB.out, hnc, by omega, HCA.out, HCB.out.tail, HO9.out, by omega, HG2.out, below_drewN HB9.out _⟩, by simp [lenOf]⟩
        · by_cases hlt : x2 < y2
          · have HG2 := Lib.hid (show meetP a b = acc ++ meetP a2 ((y1, y2) :: b2) by rw [HG.out, HMX.out, HMN.out, if_neg hlo, if_pos hlt, List.nil_append])
            clear da0 da1 db0 db1
            have da1 := HDA.out wr HB.out
            have db1 := HDB.out wr HB.out
            go_wp2_with fail
            go_quiet (fail)
            go_wp2_with fail
            exact ⟨⟨_, _, n, m + 1, c - 1, d, k, a2, (y1, y2) :: b2, _, rfl, rfl, HTA.out, HRB.out, by omega, hmd, HCA.out.tail, HCB.out, HO.out, by omega, HG2.out, below_drewN HB.out _⟩, by simp [lenOf]⟩
          · have HG2 := Lib.hid (show meetP a b = acc ++ meetP ((x1, x2) :: a2) b2 by rw [HG.out, HMX.out, HMN.out, if_neg hlo, if_neg hlt, List.nil_append])
            clear da0 da1 db0 db1
            have da1 := HDA.out wr HB.out
            have db1 := HDB.out wr HB.out
            go_wp2_with fail
            go_quiet (fail)
            go_wp2_with fail
            exact ⟨⟨_, _, n + 1, m, c, d - 1, k, (x1, x2) :: a2, b2, _, rfl, rfl, HRA.out, HTB.out, hnc, by omega, HCA.out, HCB.out.tail, HO.out, by omega, HG2.out, below_drewN HB.out _⟩, by simp [lenOf]⟩

end Go.Proofs.YthnhbcohfoodlaaGreatDoor
