/- The walk of scriptlaw17.WordsTell: for any letters, any script and any text it returns true; nothing that was there is changed. -/
import Derived.Test.YtfmebbnccjaadaaRefEach
import Derived.Test.YtfmebbnccjaadaaSame
namespace Go.Proofs.Ytfmebbnccjaadaa
open Go.RowKit

theorem tgo_len (h : Int → Bool) : ∀ (t : List Int) (p : Bool), (tgo h p t).length = t.length := by
  intro t
  induction t with
  | nil => intro p; rfl
  | cons r t ih => intro p; rw [tgo, List.length_cons, List.length_cons, ih]
theorem titleP_len (s : Spans) (t : List Int) : (titleP s t).1.length ≤ t.length := by
  unfold titleP
  by_cases h : (splitP s t).2 ≠ 0
  · rw [if_pos h]; exact Nat.zero_le _
  · rw [if_neg h]; exact Nat.le_of_eq (tgo_len _ _ _)
theorem eachP_len (ls : Spans) (s : ScriptD) (t : List Int) : (eachP ls s t).1.length ≤ 4000 := by
  unfold eachP
  by_cases h1 : (scriptW s).1 ≠ 0
  · rw [if_pos h1]; exact Nat.zero_le _
  rw [if_neg h1]
  by_cases h2 : (splitP ls t).2 ≠ 0
  · rw [if_pos h2]; exact Nat.zero_le _
  rw [if_neg h2]
  by_cases h3 : (eachGo s t (splitP ls t).1 []).2.1 ≠ 0
  · rw [if_pos h3]; exact Nat.zero_le _
  rw [if_neg h3]
  by_cases h4 : 4000 < (eachGo s t (splitP ls t).1 []).1.length
  · rw [if_pos h4]; exact Nat.zero_le _
  rw [if_neg h4]
  simp only
  omega
theorem word_at {l : List WordD} {k : Nat} (h : k < l.length) : ∃ x : WordD, (wordCells l)[k * 3]? = some (.int .i64 x.src) ∧ (wordCells l)[k * 3 + 1]? = some (.int .i64 x.upto) ∧ (wordCells l)[k * 3 + 2]? = some (.bool x.inn) :=
  ⟨l[k], word_get (List.getElem?_eq_getElem h)⟩
def WtLaw (n : Nat) (W2 : World) (i : Value) (wr : World) : Prop := ∃ k : Nat, k ≤ n ∧ i = .int .i64 k ∧ Below W2.heap.size W2 wr

set_option maxRecDepth 100000 in
set_option maxHeartbeats 6400000 in
theorem words_law (X : Nat → Prop) (s : ScriptD) (A A1 A2 At : Option Addr) (n c n1 c1 n2 c2 nt ct : Nat) (ls : Spans) (t : List Int) (w : World) (hn : n ≤ 9223372036854775807) (hls : RdS w w.heap.size A n ls) (hs : ScriptAt w X s A1 n1 A2 n2) (hnt : nt ≤ maxLen) (hnct : nt ≤ ct) (ht : RdR w w.heap.size At nt t) :
    Calls Try.prog 9 #[.slice A n c, .agg #[.bool s.only?, .slice A1 n1 c1, .slice A2 n2 c2], .slice At nt ct] w fun e w' => e = .returned (.bool true) ∧ Below w.heap.size w w' := by
  have hb0 := (Below.refl w.heap.size w).alloc (Nat.le_refl _) (.cells #[.bool s.only?, .slice A1 n1 c1, .slice A2 n2 c2] 51)
  have HX0 := Lib.hid (Blk.new w 51 #[.bool s.only?, .slice A1 n1 c1, .slice A2 n2 c2])
  have HB0 := Lib.hid hb0
  have HSA := Lib.hid (fun (W : World) (hb : Below w.heap.size w W) => show ScriptAt W X s A1 n1 A2 n2 from hs.keep (Keeps.any hb))
  have HLX := Lib.hid (fun (W : World) (hb : Below w.heap.size w W) => show RdS W W.heap.size A n ls from (Rd.below hls hb).more hb.size)
  have HTX := Lib.hid (fun (W : World) (hb : Below w.heap.size w W) => show RdR W W.heap.size At nt t from (Rd.below ht hb).more hb.size)
  have htl := titleP_len ls t
  rw [ht.len] at htl
  have htl2 := eachP_len ls s t
  have H1 := fun (W : World) (hb : Below w.heap.size w W) => words_split A At n c nt ct ls t W hn (HLX.out W hb) hnt (HTX.out W hb)
  have H2 := fun (W : World) (hb : Below w.heap.size w W) => ref17_split A At n c nt ct ls t W hn (HLX.out W hb) hnt (HTX.out W hb)
  have H3 := fun (W : World) (hb : Below w.heap.size w W) => words_title A At n c nt ct ls t W hn (HLX.out W hb) hnt (HTX.out W hb)
  have H4 := fun (W : World) (hb : Below w.heap.size w W) => ref17_title A At n c nt ct ls t W hn (HLX.out W hb) hnt (HTX.out W hb)
  have H5 := fun (W : World) (hb : Below w.heap.size w W) => words_each X s A A1 A2 At n c n1 c1 n2 c2 nt ct ls t W hn (HLX.out W hb) (HSA.out W hb) hnt hnct (HTX.out W hb)
  have H6 := fun (W : World) (hb : Below w.heap.size w W) => ref17_each X s A A1 A2 At n c n1 c1 n2 c2 nt ct ls t W hn (HLX.out W hb) (HSA.out W hb) hnt hnct (HTX.out W hb)
  obtain ⟨L, f1, e1⟩ : ∃ L f1, splitP ls t = (L, f1) := ⟨_, _, rfl⟩
  obtain ⟨Y, g1, e2⟩ : ∃ Y g1, titleP ls t = (Y, g1) := ⟨_, _, rfl⟩
  obtain ⟨Z, k1, k2, e3⟩ : ∃ Z k1 k2, eachP ls s t = (Z, (k1, k2)) := ⟨_, _, _, rfl⟩
  rw [e1] at H1 H2
  rw [e2] at H3 H4 htl
  rw [e3] at H5 H6 htl2
  unfold WsPost at H1 H2
  unfold TiPost at H3 H4
  unfold EaPost at H5 H6
  dsimp only at H1 H2 H3 H4 H5 H6 htl htl2
  clear e1 e2 e3
  have H1 := Lib.hid H1
  have H2 := Lib.hid H2
  have H3 := Lib.hid H3
  have H4 := Lib.hid H4
  have H5 := Lib.hid H5
  have H6 := Lib.hid H6
  clear hls hs ht HSA HLX HTX hb0
  go_enter Try.func9, Try.ntmps9
  go_upto_region 1 with fail
  generalize w.alloc (.cells #[.bool s.only?, .slice A1 n1 c1, .slice A2 n2 c2] 51) = W0 at *
  have hw0 := HX0.out.lt
  go_wp2_with fail
  refine (H1.out W0 HB0.out).mono ?_
  rintro e w1 ⟨⟨Aa, m, ca, rfl, hr1, hm⟩, hb1⟩
  have HX1 := Lib.hid (Blk.below HX0.out hb1 HX0.out.lt)
  have HB1 := Lib.hid (HB0.out.trans (hb1.mono HB0.out.size))
  have HR1 := Lib.hid hr1
  clear hr1 hb1 H1 HX0 HB0
  go_wp2_with fail
  refine (H2.out w1 HB1.out).mono ?_
  rintro e w2 ⟨⟨Ab, m2, cb, rfl, hr2, _⟩, hb2⟩
  have HX2 := Lib.hid (Blk.below HX1.out hb2 HX1.out.lt)
  have HB2 := Lib.hid (HB1.out.trans (hb2.mono HB1.out.size))
  have HR2 := Lib.hid hr2
  have HR1' := Lib.hid (HR1.out.keep (Keeps.any hb2))
  clear hr2 hb2 H2 HX1 HB1 HR1
  have HL1 := Lib.hid (show L.length = m by have := HR1'.out.1; rw [wordCells_length] at this; omega)
  have h12 : m = m2 := by have := HR2.out.1; have := HL1.out; rw [wordCells_length] at *; omega
  subst h12
  go_wp2_with fail
  go_loopw [40] (WtLaw m w2) (fun i _ => m - (intOf i).toNat)
  case atStart => exact ⟨0, Nat.zero_le _, rfl, Below.refl _ _⟩
  case round =>
    obtain ⟨k, hk, rfl, hb⟩ := hrel
    have HB := Lib.hid hb
    by_cases hlt : k < m
    · obtain ⟨x, g0, g1, g2⟩ := word_at (l := L) (k := k) (by rw [HL1.out]; exact hlt)
      obtain ⟨p1, o1, rfl, _, hp1, hc1⟩ := (HR1'.out.keep (Keeps.any hb)).2 (by omega)
      obtain ⟨p2, o2, rfl, _, hp2, hc2⟩ := (HR2.out.keep (Keeps.any hb)).2 (by omega)
      have u0 : wr.cell? ⟨p1, o1 + k * 3, none⟩ = some (.int .i64 x.src) := hc1 _ _ g0
      have u1 : wr.cell? ⟨p1, o1 + k * 3 + 1, none⟩ = some (.int .i64 x.upto) := by rw [Nat.add_assoc]; exact hc1 _ _ g1
      have u2 : wr.cell? ⟨p1, o1 + k * 3 + 2, none⟩ = some (.bool x.inn) := by rw [Nat.add_assoc]; exact hc1 _ _ g2
      have v0 : wr.cell? ⟨p2, o2 + k * 3, none⟩ = some (.int .i64 x.src) := hc2 _ _ g0
      have v1 : wr.cell? ⟨p2, o2 + k * 3 + 1, none⟩ = some (.int .i64 x.upto) := by rw [Nat.add_assoc]; exact hc2 _ _ g1
      have v2 : wr.cell? ⟨p2, o2 + k * 3 + 2, none⟩ = some (.bool x.inn) := by rw [Nat.add_assoc]; exact hc2 _ _ g2
      have hk0 : (0 : Int) ≤ (k : Int) := by omega
      have hk1 : (k : Int) < (m : Int) := by omega
      clear g0 g1 g2 hc1 hc2 hb
      go_wp2_with fail
      go_quiet (fail)
      go_wp2_with fail
      exact ⟨⟨k + 1, by omega, by go_num, below_drewN HB.out nq⟩, by simp [intOf]; omega⟩
    · obtain rfl : k = m := by omega
      have HX3 := Lib.hid (Blk.below HX2.out hb HX2.out.lt)
      have HB3 := Lib.hid (HB2.out.trans (hb.mono HB2.out.size))
      clear hb HB HX2 HB2 HR1' HR2 HL1
      go_wp2_with fail
      refine (H3.out wr HB3.out).mono ?_
      rintro e w4 ⟨⟨Ac, na, cc, rfl, hr4⟩, hb4⟩
      have HX4 := Lib.hid (Blk.below HX3.out hb4 HX3.out.lt)
      have HB4 := Lib.hid (HB3.out.trans (hb4.mono HB3.out.size))
      have HR4 := Lib.hid hr4
      clear hr4 hb4 H3 HX3 HB3
      go_wp2_with fail
      refine (H4.out w4 HB4.out).mono ?_
      rintro e w5 ⟨⟨Ad, nb, cd, rfl, hr5⟩, hb5⟩
      have HX5 := Lib.hid (Blk.below HX4.out hb5 HX4.out.lt)
      have HB5 := Lib.hid (HB4.out.trans (hb5.mono HB4.out.size))
      have HR4' := Lib.hid (HR4.out.keep (Keeps.any hb5))
      have HS1 := Lib.hid (show Calls Try.prog 14 #[.slice Ac na cc, .slice Ad nb cd] w5 fun e w' => e = .returned (.bool true) ∧ ∃ k, w' = w5.drewN k by
        have h1 := HR4'.out.1
        rw [runeCells_length] at h1
        have := ref_same Ac Ad na nb cc cd Y Y w5 (by simp only [maxLen] at hnt; omega) HR4'.out.of hr5.of
        simpa using this)
      clear hr5 hb5 H4 HX4 HB4 HR4 HR4'
      go_wp2_with fail
      refine HS1.out.mono ?_
      rintro e w6 ⟨rfl, q6, rfl⟩
      have HX6 := Lib.hid (HX5.out.drewN q6)
      have HB6 := Lib.hid (below_drewN HB5.out q6)
      clear HX5 HB5 HS1
      go_upto_region 15 with fail
      generalize w5.drewN q6 = W6 at *
      have hw6 := HX6.out.lt
      have x0 := HX6.out.cell 0
      have x1 := HX6.out.cell 1
      have x2 := HX6.out.cell 2
      go_wp2_with fail
      refine (H5.out W6 HB6.out).mono ?_
      rintro e w7 ⟨⟨Ae, ne, ce, rfl, hr7⟩, hb7⟩
      have hba := (Below.refl w7.heap.size w7).alloc (Nat.le_refl _) (.cells #[.int .i64 k1, .int .i64 k2] 28)
      have hbb := hb7.trans (hba.mono hb7.size)
      have HX7 := Lib.hid (Blk.below HX6.out hbb HX6.out.lt)
      have HF7 := Lib.hid (Blk.new w7 28 #[.int .i64 k1, .int .i64 k2])
      have HB7 := Lib.hid (HB6.out.trans (hbb.mono HB6.out.size))
      have HR7 := Lib.hid (hr7.keep (Keeps.any hba))
      have hw7 : w.heap.size < w7.heap.size := Nat.lt_of_lt_of_le hw6 hb7.size
      clear hr7 hb7 hba hbb H5 HX6 HB6 x0 x1 x2
      go_upto_region 16 with fail
      generalize w7.alloc (.cells #[.int .i64 k1, .int .i64 k2] 28) = W7 at *
      have hw7' := HF7.out.lt
      have x0 := HX7.out.cell 0
      have x1 := HX7.out.cell 1
      have x2 := HX7.out.cell 2
      go_wp2_with fail
      refine (H6.out W7 HB7.out).mono ?_
      rintro e w8 ⟨⟨Af, nf, cf, rfl, hr8⟩, hb8⟩
      have hba := (Below.refl w8.heap.size w8).alloc (Nat.le_refl _) (.cells #[.int .i64 k1, .int .i64 k2] 28)
      have hbb := hb8.trans (hba.mono hb8.size)
      have HF7' := Lib.hid (Blk.below HF7.out hbb HF7.out.lt)
      have HF8 := Lib.hid (Blk.new w8 28 #[.int .i64 k1, .int .i64 k2])
      have HB8 := Lib.hid (HB7.out.trans (hbb.mono HB7.out.size))
      have HR7' := Lib.hid (HR7.out.keep (Keeps.any hbb))
      have HR8 := Lib.hid (hr8.keep (Keeps.any hba))
      clear hr8 hb8 hba hbb H6 HX7 HB7 HF7 HR7 x0 x1 x2
      go_upto_region 17 with fail
      generalize w8.alloc (.cells #[.int .i64 k1, .int .i64 k2] 28) = W8 at *
      have a0 := HF7'.out.cell 0
      have a1 := HF7'.out.cell 1
      have b0 := HF8.out.cell 0
      have b1 := HF8.out.cell 1
      have HS2 := Lib.hid (show Calls Try.prog 14 #[.slice Ae ne ce, .slice Af nf cf] W8 fun e w' => e = .returned (.bool true) ∧ ∃ k, w' = W8.drewN k by
        have h1 := HR7'.out.1
        rw [runeCells_length] at h1
        have := ref_same Ae Af ne nf ce cf Z Z W8 (by omega) HR7'.out.of HR8.out.of
        simpa using this)
      go_wp2_with fail
      refine HS2.out.mono ?_
      rintro e w9 ⟨rfl, q9, rfl⟩
      have HB9 := Lib.hid (below_drewN HB8.out q9)
      go_wp2_with fail
      go_ret
      exact ⟨rfl, HB9.out⟩

end Go.Proofs.Ytfmebbnccjaadaa
