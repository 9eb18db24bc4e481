/- The walk of scriptlaw15.AlignTells: for any rules and any text it returns true; nothing that was there is changed. -/
import Derived.Test.YtfmebbnccjaadaaRefLinks
namespace Go.Proofs.Ytfmebbnccjaadaa
open Go.RowKit

theorem link_at {l : List LinkD} {k : Nat} (h : k < l.length) : ∃ x : LinkD, (linkCells l)[k * 5]? = some (.int .i64 x.src) ∧ (linkCells l)[k * 5 + 1]? = some (.int .i64 x.upto) ∧ (linkCells l)[k * 5 + 2]? = some (.int .i64 x.beg) ∧ (linkCells l)[k * 5 + 3]? = some (.int .i64 x.fin) ∧ (linkCells l)[k * 5 + 4]? = some (.int .i64 x.rule) := by
  induction l generalizing k with
  | nil => simp at h
  | cons z l ih =>
    cases k with
    | zero => exact ⟨z, by simp [linkCells], by simp [linkCells], by simp [linkCells], by simp [linkCells], by simp [linkCells]⟩
    | succ k =>
      have := ih (k := k) (by simpa using h)
      simp only [linkCells, List.flatMap_cons] at this ⊢
      have e1 : (k + 1) * 5 = k * 5 + 1 + 1 + 1 + 1 + 1 := by omega
      rw [e1]
      simpa using this
def LawRel (n : Nat) (W2 : World) (i : Value) (wr : World) : Prop := ∃ k : Nat, k ≤ n ∧ i = .int .i64 k ∧ Below W2.heap.size W2 wr

set_option maxRecDepth 100000 in
set_option maxHeartbeats 3200000 in
theorem align_law (A At : Option Addr) (n c nt ct : Nat) (l : List RuleD) (t : List Int) (w : World) (hn : n ≤ maxLen) (hl : ListX (RuleC w Any0) w Any0 7 A n l) (hnt : nt ≤ maxLen) (ht : RdR w w.heap.size At nt t) :
    Calls Try.prog 4 #[.slice A n c, .slice At nt ct] w fun e w' => e = .returned (.bool true) ∧ Below w.heap.size w w' := by
  have HT := Lib.hid (fun (W : World) (hb : Below w.heap.size w W) => show RdR W W.heap.size At nt t from (Rd.below ht hb).more hb.size)
  have HL := Lib.hid (fun (W : World) (hb : Below w.heap.size w W) => show ListX (RuleC W Any0) W Any0 7 A n l from hl.keep (Keeps.any hb) (fun _ _ => RuleC.keep (Keeps.any hb)))
  have H1 := align_links Any0 l A n c t At nt ct w hn hl hnt ht
  have H2 := fun (W : World) (hb : Below w.heap.size w W) => ref15_links Any0 l A n c t At nt ct W hn (HL.out W hb) hnt (HT.out W hb)
  obtain ⟨L, k1, k2, e1⟩ : ∃ L k1 k2, alignP l t = (L, (k1, k2)) := ⟨_, _, _, rfl⟩
  rw [e1] at H1 H2
  unfold AlPost at H1 H2
  clear e1
  have H1 := Lib.hid H1
  have H2 := Lib.hid H2
  clear hl ht HT HL
  go_enter Try.func4, Try.ntmps4
  go_wp2_with fail
  refine H1.out.mono ?_
  rintro e w1 ⟨⟨A1, n1, c1, rfl, hr1, hn1⟩, hb1⟩
  have hba := (Below.refl w1.heap.size w1).alloc (Nat.le_refl _) (.cells #[.int .i64 k1, .int .i64 k2] 28)
  have HF1 := Lib.hid (Blk.new w1 28 #[.int .i64 k1, .int .i64 k2])
  have HB1 := Lib.hid (hb1.trans (hba.mono hb1.size))
  have HR1 := Lib.hid (hr1.keep (Keeps.any hba))
  have hw0 : w.heap.size ≤ w1.heap.size := hb1.size
  clear hr1 hb1 hba H1
  go_upto_region 2 with fail
  generalize w1.alloc (.cells #[.int .i64 k1, .int .i64 k2] 28) = W1 at *
  go_wp2_with fail
  refine (H2.out W1 HB1.out).mono ?_
  rintro e w2 ⟨⟨A2, n2, c2, rfl, hr2, hn2⟩, hb2⟩
  have hba := (Below.refl w2.heap.size w2).alloc (Nat.le_refl _) (.cells #[.int .i64 k1, .int .i64 k2] 28)
  have hbb := hb2.trans (hba.mono hb2.size)
  have HF2 := Lib.hid (Blk.new w2 28 #[.int .i64 k1, .int .i64 k2])
  have HF1' := Lib.hid (Blk.below HF1.out hbb HF1.out.lt)
  have HB2 := Lib.hid (HB1.out.trans (hbb.mono HB1.out.size))
  have HR2 := Lib.hid (hr2.keep (Keeps.any hba))
  have HR1' := Lib.hid (HR1.out.keep (Keeps.any hbb))
  clear hr2 hb2 hba hbb H2 HR1 HB1 HF1
  go_upto_region 3 with fail
  generalize w2.alloc (.cells #[.int .i64 k1, .int .i64 k2] 28) = W2 at *
  have a0 := HF1'.out.cell 0
  have a1 := HF1'.out.cell 1
  have b0 := HF2.out.cell 0
  have b1 := HF2.out.cell 1
  have HL1 := Lib.hid (show L.length = n1 by have := HR1'.out.1; rw [linkCells_length] at this; omega)
  have h12 : n1 = n2 := by have := HR2.out.1; have := HL1.out; rw [linkCells_length] at *; omega
  subst h12
  go_wp2_with fail
  go_loopw [34] (LawRel n1 W2) (fun i _ => n1 - (intOf i).toNat)
  case atStart => exact ⟨0, Nat.zero_le _, rfl, Below.refl _ _⟩
  case round =>
    obtain ⟨k, hk, rfl, hb⟩ := hrel
    have HB := Lib.hid hb
    by_cases hlt : k < n1
    · obtain ⟨x, g0, g1, g2, g3, g4⟩ := link_at (l := L) (k := k) (by rw [HL1.out]; exact hlt)
      obtain ⟨p1, o1, rfl, _, hp1, hc1⟩ := (HR1'.out.keep (Keeps.any hb)).2 (by omega)
      obtain ⟨p2, o2, rfl, _, hp2, hc2⟩ := (HR2.out.keep (Keeps.any hb)).2 (by omega)
      have u0 : wr.cell? ⟨p1, o1 + k * 5, none⟩ = some (.int .i64 x.src) := hc1 _ _ g0
      have u1 : wr.cell? ⟨p1, o1 + k * 5 + 1, none⟩ = some (.int .i64 x.upto) := by rw [Nat.add_assoc]; exact hc1 _ _ g1
      have u2 : wr.cell? ⟨p1, o1 + k * 5 + 2, none⟩ = some (.int .i64 x.beg) := by rw [Nat.add_assoc]; exact hc1 _ _ g2
      have u3 : wr.cell? ⟨p1, o1 + k * 5 + 3, none⟩ = some (.int .i64 x.fin) := by rw [Nat.add_assoc]; exact hc1 _ _ g3
      have u4 : wr.cell? ⟨p1, o1 + k * 5 + 4, none⟩ = some (.int .i64 x.rule) := by rw [Nat.add_assoc]; exact hc1 _ _ g4
      have v0 : wr.cell? ⟨p2, o2 + k * 5, none⟩ = some (.int .i64 x.src) := hc2 _ _ g0
      have v1 : wr.cell? ⟨p2, o2 + k * 5 + 1, none⟩ = some (.int .i64 x.upto) := by rw [Nat.add_assoc]; exact hc2 _ _ g1
      have v2 : wr.cell? ⟨p2, o2 + k * 5 + 2, none⟩ = some (.int .i64 x.beg) := by rw [Nat.add_assoc]; exact hc2 _ _ g2
      have v3 : wr.cell? ⟨p2, o2 + k * 5 + 3, none⟩ = some (.int .i64 x.fin) := by rw [Nat.add_assoc]; exact hc2 _ _ g3
      have v4 : wr.cell? ⟨p2, o2 + k * 5 + 4, none⟩ = some (.int .i64 x.rule) := by rw [Nat.add_assoc]; exact hc2 _ _ g4
      have hk0 : (0 : Int) ≤ (k : Int) := by omega
      have hk1 : (k : Int) < (n1 : Int) := by omega
      clear g0 g1 g2 g3 g4 hc1 hc2 hb
      go_wp2_with fail
      go_quiet (fail)
      go_wp2_with fail
      exact ⟨⟨k + 1, by omega, by go_num, below_drewN HB.out nq⟩, by simp [intOf]; omega⟩
    · obtain rfl : k = n1 := by omega
      clear hb
      go_wp2_with fail
      go_ret
      exact ⟨rfl, HB2.out.trans (HB.out.mono HB2.out.size)⟩

end Go.Proofs.Ytfmebbnccjaadaa
