/- The walk of scriptlaw20.FindTells: for any rules, any text and any pattern it returns true; nothing that was there is changed. -/
import Derived.Test.YtfmebbnccjaadaaRefFind
namespace Go.Proofs.Ytfmebbnccjaadaa
open Go.RowKit

theorem hit_at {l : List (Int × Int)} {k : Nat} (h : k < l.length) : ∃ x : Int × Int, (shotCells l)[k * 2]? = some (.int .i64 x.1) ∧ (shotCells l)[k * 2 + 1]? = some (.int .i64 x.2) :=
  ⟨l[k], shot_at (List.getElem?_eq_getElem h)⟩
def FdLaw (n : Nat) (W2 : World) (i : Value) (wr : World) : Prop := ∃ k : Nat, k ≤ n ∧ i = .int .i64 k ∧ Below W2.heap.size W2 wr

set_option maxRecDepth 100000 in
set_option maxHeartbeats 3200000 in
theorem find_law (A At Ap : Option Addr) (n c nt ct np cp : Nat) (l : List RuleD) (t p : List Int) (w : World) (hn : n ≤ maxLen) (hl : ListX (RuleC w Any0) w Any0 7 A n l) (hnt : nt ≤ maxLen) (ht : RdR w w.heap.size At nt t) (hnp : np ≤ maxLen) (hp : RdR w w.heap.size Ap np p) :
    Calls Try.prog 5 #[.slice A n c, .slice At nt ct, .slice Ap np cp] w fun e w' => e = .returned (.bool true) ∧ Below w.heap.size w w' := by
  have HT := Lib.hid (fun (W : World) (hb : Below w.heap.size w W) => show RdR W W.heap.size At nt t from (Rd.below ht hb).more hb.size)
  have HPT := Lib.hid (fun (W : World) (hb : Below w.heap.size w W) => show RdR W W.heap.size Ap np p from (Rd.below hp hb).more hb.size)
  have HL := Lib.hid (fun (W : World) (hb : Below w.heap.size w W) => show ListX (RuleC W Any0) W Any0 7 A n l from hl.keep (Keeps.any hb) (fun _ _ => RuleC.keep (Keeps.any hb)))
  have H1 := find_find Any0 l A n c t p At Ap nt ct np cp w hn hl hnt ht hnp hp
  have H2 := fun (W : World) (hb : Below w.heap.size w W) => ref20_find Any0 l A n c t p At Ap nt ct np cp W hn (HL.out W hb) hnt (HT.out W hb) hnp (HPT.out W hb)
  obtain ⟨L, k1, k2, e1⟩ : ∃ L k1 k2, findP l t p = (L, (k1, k2)) := ⟨_, _, _, rfl⟩
  rw [e1] at H1 H2
  unfold FdPost at H1 H2
  clear e1
  have H1 := Lib.hid H1
  have H2 := Lib.hid H2
  clear hl ht hp HT HL HPT
  go_enter Try.func5, Try.ntmps5
  go_wp2_with fail
  refine H1.out.mono ?_
  rintro e w1 ⟨⟨A1, n1, c1, rfl, hr1, hn1⟩, hb1⟩
  have hba := (Below.refl w1.heap.size w1).alloc (Nat.le_refl _) (.cells #[.int .i64 k1, .int .i64 k2] 28)
  have HF1 := Lib.hid (Blk.new w1 28 #[.int .i64 k1, .int .i64 k2])
  have HB1 := Lib.hid (hb1.trans (hba.mono hb1.size))
  have HR1 := Lib.hid (hr1.keep (Keeps.any hba))
  have hw0 : w.heap.size ≤ w1.heap.size := hb1.size
  clear hr1 hb1 hba H1
  go_upto_region 2 with fail
  generalize w1.alloc (.cells #[.int .i64 k1, .int .i64 k2] 28) = W1 at *
  go_wp2_with fail
  refine (H2.out W1 HB1.out).mono ?_
  rintro e w2 ⟨⟨A2, n2, c2, rfl, hr2, hn2⟩, hb2⟩
  have hba := (Below.refl w2.heap.size w2).alloc (Nat.le_refl _) (.cells #[.int .i64 k1, .int .i64 k2] 28)
  have hbb := hb2.trans (hba.mono hb2.size)
  have HF2 := Lib.hid (Blk.new w2 28 #[.int .i64 k1, .int .i64 k2])
  have HF1' := Lib.hid (Blk.below HF1.out hbb HF1.out.lt)
  have HB2 := Lib.hid (HB1.out.trans (hbb.mono HB1.out.size))
  have HR2 := Lib.hid (hr2.keep (Keeps.any hba))
  have HR1' := Lib.hid (HR1.out.keep (Keeps.any hbb))
  clear hr2 hb2 hba hbb H2 HR1 HB1 HF1
  go_upto_region 3 with fail
  generalize w2.alloc (.cells #[.int .i64 k1, .int .i64 k2] 28) = W2 at *
  have a0 := HF1'.out.cell 0
  have a1 := HF1'.out.cell 1
  have b0 := HF2.out.cell 0
  have b1 := HF2.out.cell 1
  have HL1 := Lib.hid (show L.length = n1 by have := HR1'.out.1; rw [shotCells_length] at this; omega)
  have h12 : n1 = n2 := by have := HR2.out.1; have := HL1.out; rw [shotCells_length] at *; omega
  subst h12
  go_wp2_with fail
  go_loopw [38] (FdLaw n1 W2) (fun i _ => n1 - (intOf i).toNat)
  case atStart => exact ⟨0, Nat.zero_le _, rfl, Below.refl _ _⟩
  case round =>
    obtain ⟨k, hk, rfl, hb⟩ := hrel
    have HB := Lib.hid hb
    by_cases hlt : k < n1
    · obtain ⟨x, g0, g1⟩ := hit_at (l := L) (k := k) (by rw [HL1.out]; exact hlt)
      obtain ⟨p1, o1, rfl, _, hp1, hc1⟩ := (HR1'.out.keep (Keeps.any hb)).2 (by omega)
      obtain ⟨p2, o2, rfl, _, hp2, hc2⟩ := (HR2.out.keep (Keeps.any hb)).2 (by omega)
      have u0 : wr.cell? ⟨p1, o1 + k * 2, none⟩ = some (.int .i64 x.1) := hc1 _ _ g0
      have u1 : wr.cell? ⟨p1, o1 + k * 2 + 1, none⟩ = some (.int .i64 x.2) := by rw [Nat.add_assoc]; exact hc1 _ _ g1
      have v0 : wr.cell? ⟨p2, o2 + k * 2, none⟩ = some (.int .i64 x.1) := hc2 _ _ g0
      have v1 : wr.cell? ⟨p2, o2 + k * 2 + 1, none⟩ = some (.int .i64 x.2) := by rw [Nat.add_assoc]; exact hc2 _ _ g1
      have hk0 : (0 : Int) ≤ (k : Int) := by omega
      have hk1 : (k : Int) < (n1 : Int) := by omega
      clear g0 g1 hc1 hc2 hb
      go_wp2_with fail
      go_quiet (fail)
      go_wp2_with fail
      exact ⟨⟨k + 1, by omega, by go_num, below_drewN HB.out nq⟩, by simp [intOf]; omega⟩
    · obtain rfl : k = n1 := by omega
      clear hb
      go_wp2_with fail
      go_ret
      exact ⟨rfl, HB2.out.trans (HB.out.mono HB2.out.size)⟩

end Go.Proofs.Ytfmebbnccjaadaa
