/- The walk of scriptlaw13.ChainTells: for any script, text and rune it returns true; nothing that was there is changed. -/
import Derived.Test.YtfmebbnccjaadaaRefGo
import Derived.Test.YtfmebbnccjaadaaSame
namespace Go.Proofs.Ytfmebbnccjaadaa
open Go.RowKit


set_option maxRecDepth 100000 in
set_option maxHeartbeats 6400000 in
theorem chain_tells (X : Nat → Prop) (s : ScriptD) (t : List Int) (r : Int) (A1 A2 At : Option Addr) (n1 c1 n2 c2 nt ct : Nat) (w : World) (hs : ScriptAt w X s A1 n1 A2 n2) (hnc : nt ≤ ct) (hnt : nt ≤ maxLen) (ht : RdR w w.heap.size At nt t) :
    Calls Try.prog 6 #[.agg #[.bool s.only?, .slice A1 n1 c1, .slice A2 n2 c2], .slice At nt ct, .int .i32 r] w fun e w' => e = .returned (.bool true) ∧ Below w.heap.size w w' := by
  have HSA := Lib.hid (fun (W : World) (hb : Below w.heap.size w W) => show ScriptAt W X s A1 n1 A2 n2 from hs.keep (Keeps.any hb))
  have HTX := Lib.hid (fun (W : World) (hb : Below w.heap.size w W) => show RdR W W.heap.size At nt t from (Rd.below ht hb).more hb.size)
  have HX0 := Lib.hid (Blk.new w 51 #[.bool s.only?, .slice A1 n1 c1, .slice A2 n2 c2])
  have HB0 := Lib.hid ((Below.refl w.heap.size w).alloc (Nat.le_refl _) (.cells #[.bool s.only?, .slice A1 n1 c1, .slice A2 n2 c2] 51))
  clear hs ht
  go_enter Try.func6, Try.ntmps6
  go_upto_region 1 with fail
  generalize w.alloc (.cells #[.bool s.only?, .slice A1 n1 c1, .slice A2 n2 c2] 51) = W0 at *
  have H1 := Lib.hid (chain_go X s t A1 A2 At n1 c1 n2 c2 nt ct W0 (HSA.out W0 HB0.out) hnc hnt (HTX.out W0 HB0.out))
  have H2 := Lib.hid (fun (W : World) (hb : Below w.heap.size w W) => ref13_go X s t A1 A2 At n1 c1 n2 c2 nt ct W (HSA.out W hb) hnt (HTX.out W hb))
  have x0 : W0.cell? ⟨w.heap.size, 0, none⟩ = some (.bool s.only?) := HX0.out.cell 0
  have x1 : W0.cell? ⟨w.heap.size, 1, none⟩ = some (.slice A1 n1 c1) := HX0.out.cell 1
  have x2 : W0.cell? ⟨w.heap.size, 2, none⟩ = some (.slice A2 n2 c2) := HX0.out.cell 2
  go_wp2_with fail
  refine H1.out.mono ?_
  rintro e w1 ⟨⟨B1, m1, k1, rfl, hr1⟩, hb1⟩
  rw [← goRef_same] at hr1 ⊢
  obtain ⟨o, f1, f2, ho⟩ : ∃ o f1 f2, goRef s t = (o, (f1, f2)) := ⟨_, _, _, rfl⟩
  have HOL := Lib.hid (show o.length ≤ 4000 by have := go_small s t; rw [← goRef_same, ho] at this; exact this)
  rw [ho] at H2 hr1 ⊢
  dsimp only at H2 hr1 ⊢
  have hba := (Below.refl w1.heap.size w1).alloc (Nat.le_refl _) (.cells #[.int .i64 f1, .int .i64 f2] 28)
  have HB1 := Lib.hid (HB0.out.trans ((hb1.trans (hba.mono hb1.size)).mono HB0.out.size))
  have HR1 := Lib.hid (Rd.below hr1.of hba)
  have HX1 := Lib.hid (Blk.below (Blk.below HX0.out hb1 HX0.out.lt) hba (Nat.lt_of_lt_of_le HX0.out.lt hb1.size))
  have HF1 := Lib.hid (Blk.new w1 28 #[.int .i64 f1, .int .i64 f2])
  have hw1 : w.heap.size < w1.heap.size := Nat.lt_of_lt_of_le HX0.out.lt hb1.size
  clear hb1 hba hr1 H1 x0 x1 x2 HX0 HB0 ho
  go_upto_region 2 with fail
  generalize w1.alloc (.cells #[.int .i64 f1, .int .i64 f2] 28) = W1 at *
  have x0 : W1.cell? ⟨w.heap.size, 0, none⟩ = some (.bool s.only?) := HX1.out.cell 0
  have x1 : W1.cell? ⟨w.heap.size, 1, none⟩ = some (.slice A1 n1 c1) := HX1.out.cell 1
  have x2 : W1.cell? ⟨w.heap.size, 2, none⟩ = some (.slice A2 n2 c2) := HX1.out.cell 2
  go_wp2_with fail
  refine (H2.out W1 HB1.out).mono ?_
  rintro e w2 ⟨⟨B2, m2, k2, rfl, hr2⟩, hb2⟩
  dsimp only at hr2 ⊢
  have hba := (Below.refl w2.heap.size w2).alloc (Nat.le_refl _) (.cells #[.int .i64 f1, .int .i64 f2] 28)
  have hbb := hb2.trans (hba.mono hb2.size)
  have HB2 := Lib.hid (HB1.out.trans (hbb.mono HB1.out.size))
  have HR2 := Lib.hid (Rd.below hr2.of hba)
  have HR1 := Lib.hid (Rd.below HR1.out (hbb.mono (by have := HF1.out.lt; omega)))
  have HX2 := Lib.hid (Blk.below HX1.out hbb HX1.out.lt)
  have HF2 := Lib.hid (Blk.below HF1.out hbb HF1.out.lt)
  have HG2 := Lib.hid (Blk.new w2 28 #[.int .i64 f1, .int .i64 f2])
  have hw2 : W1.heap.size ≤ w2.heap.size := hb2.size
  clear hb2 hba hbb hr2 H2 x0 x1 x2 HX1
  go_upto_region 3 with fail
  generalize w2.alloc (.cells #[.int .i64 f1, .int .i64 f2] 28) = W2 at *
  have hw3 := HG2.out.lt
  have x0 : W2.cell? ⟨w.heap.size, 0, none⟩ = some (.bool s.only?) := HX2.out.cell 0
  have x1 : W2.cell? ⟨w.heap.size, 1, none⟩ = some (.slice A1 n1 c1) := HX2.out.cell 1
  have x2 : W2.cell? ⟨w.heap.size, 2, none⟩ = some (.slice A2 n2 c2) := HX2.out.cell 2
  have a0 := HF2.out.cell 0
  have a1 := HF2.out.cell 1
  have b0 := HG2.out.cell 0
  have b1 := HG2.out.cell 1
  obtain ⟨g1, g2, hg⟩ : ∃ g1 g2, scriptW s = (g1, g2) := ⟨_, _, rfl⟩
  have HCW := Lib.hid (fun (W : World) (hb : Below w.heap.size w W) => chain_wrong X s A1 A2 n1 c1 n2 c2 W (HSA.out W hb))
  have HRW := Lib.hid (fun (W : World) (hb : Below w.heap.size w W) => ref13_wrong X s A1 A2 n1 c1 n2 c2 W (HSA.out W hb))
  rw [hg] at HCW HRW
  dsimp only at HCW HRW
  have HKEEP := Lib.hid (fun (W : World) (hb : Below W2.heap.size W2 W) => show W.cell? ⟨w.heap.size, 0, none⟩ = some (.bool s.only?) ∧ W.cell? ⟨w.heap.size, 1, none⟩ = some (.slice A1 n1 c1) ∧ W.cell? ⟨w.heap.size, 2, none⟩ = some (.slice A2 n2 c2) ∧ W.cell? ⟨w1.heap.size, 0, none⟩ = some (.int .i64 f1) ∧ W.cell? ⟨w1.heap.size, 1, none⟩ = some (.int .i64 f2) ∧ W.cell? ⟨w2.heap.size, 0, none⟩ = some (.int .i64 f1) ∧ W.cell? ⟨w2.heap.size, 1, none⟩ = some (.int .i64 f2) from
    ⟨(Blk.below HX2.out hb HX2.out.lt).cell 0, (Blk.below HX2.out hb HX2.out.lt).cell 1, (Blk.below HX2.out hb HX2.out.lt).cell 2, (Blk.below HF2.out hb HF2.out.lt).cell 0, (Blk.below HF2.out hb HF2.out.lt).cell 1, (Blk.below HG2.out hb HG2.out.lt).cell 0, (Blk.below HG2.out hb HG2.out.lt).cell 1⟩)
  have HBD := Lib.hid (below_drew1 (Below.refl W2.heap.size W2))
  have hr1n := HR1.out.1
  rw [runeCells_length] at hr1n
  have hw1b := HF1.out.lt
  have hol := HOL.out
  clear hg
  refine wp_region_till (S := (fun w' => w'.cell? ⟨w.heap.size, 0, none⟩ = some (.bool s.only?) ∧ w'.cell? ⟨w.heap.size, 1, none⟩ = some (.slice A1 n1 c1) ∧ w'.cell? ⟨w.heap.size, 2, none⟩ = some (.slice A2 n2 c2) ∧ w'.cell? ⟨w1.heap.size, 0, none⟩ = some (.int .i64 f1) ∧ w'.cell? ⟨w1.heap.size, 1, none⟩ = some (.int .i64 f2) ∧ w'.cell? ⟨w2.heap.size, 0, none⟩ = some (.int .i64 f1) ∧ w'.cell? ⟨w2.heap.size, 1, none⟩ = some (.int .i64 f2))) [0, 2, 6, 7] (by kernel_rfl) ⟨x0, x1, x2, a0, a1, b0, b1⟩ (fun hHeld => ?_)
  refine wpTill_take (i := 0) (oi := ⟨some 23, _, _, _, _, _⟩) (v := ?_) rfl (by kernel_rfl) (by kernel_rfl) (by kernel_rfl) (by kernel_rfl) (by kernel_rfl) (fun _ _ _ h => h) (Or.inl ⟨by rfl, ?_⟩) (by assumption) ?_
  rotate_left 1
  · intro wq hSw
    (try dsimp only at hSw)
    go_simp
    try with_reducible rfl
  try simp only [Act.put, List.setIfInBounds_toArray, List.set_cons_zero, List.set_cons_succ]
  refine wpTill_take (i := 2) (oi := ⟨some 25, _, _, _, _, _⟩) (v := ?_) rfl (by kernel_rfl) (by kernel_rfl) (by kernel_rfl) (by kernel_rfl) (by kernel_rfl) (fun _ _ _ h => h) (Or.inl ⟨by rfl, ?_⟩) (by assumption) ?_
  rotate_left 1
  · intro wq hSw
    (try dsimp only at hSw)
    go_simp
    try with_reducible rfl
  try simp only [Act.put, List.setIfInBounds_toArray, List.set_cons_zero, List.set_cons_succ]
  refine wpTill_one (i := 1) (o := ⟨some 24, _, _, _, _, _⟩) (by kernel_rfl) rfl (fun K hK => ?_)
  go_simp
  go_at_call 21
  refine (HCW.out _ (below_drew1 HB2.out)).mono ?_
  rintro e wk3 ⟨rfl, hb3⟩
  have HBK3 := Lib.hid (HBD.out.trans (hb3.mono HBD.out.size))
  clear hb3
  try dsimp only
  refine hK.out _ _ ?_ (fun hHeld => ?_)
  · exact HKEEP.out _ HBK3.out
  clear hK K
  try simp only [Act.put, List.setIfInBounds_toArray, List.set_cons_zero, List.set_cons_succ]
  refine wpTill_one (i := 3) (o := ⟨some 26, _, _, _, _, _⟩) (by kernel_rfl) rfl (fun K hK => ?_)
  go_simp
  go_at_call 22
  refine (HRW.out _ (HB2.out.trans (HBK3.out.mono HB2.out.size))).mono ?_
  rintro e wk4 ⟨rfl, hb4⟩
  have HBK4 := Lib.hid (HBK3.out.trans (hb4.mono HBK3.out.size))
  clear hb4
  try dsimp only
  refine hK.out _ _ ?_ (fun hHeld => ?_)
  · exact HKEEP.out _ HBK4.out
  clear hK K
  try simp only [Act.put, List.setIfInBounds_toArray, List.set_cons_zero, List.set_cons_succ]
  refine wpTill_pure (i := 4) (oi := ⟨some 27, _, _, _, _, _⟩) (v := ?_) rfl (by kernel_rfl) (by kernel_rfl) (by kernel_rfl) (fun _ _ _ h => h) (Or.inl ⟨by rfl, ?_⟩) ?_
  rotate_left 1
  · intro wq _
    go_simp
    try with_reducible rfl
  try simp only [Act.put, List.setIfInBounds_toArray, List.set_cons_zero, List.set_cons_succ]
  refine wpTill_pure (i := 5) (oi := ⟨some 28, _, _, _, _, _⟩) (v := ?_) rfl (by kernel_rfl) (by kernel_rfl) (by kernel_rfl) (fun _ _ _ h => h) (Or.inl ⟨by rfl, ?_⟩) ?_
  rotate_left 1
  · intro wq _
    go_simp
    try with_reducible rfl
  try simp only [Act.put, List.setIfInBounds_toArray, List.set_cons_zero, List.set_cons_succ]
  refine wpTill_take (i := 6) (oi := ⟨some 29, _, _, _, _, _⟩) (v := ?_) rfl (by kernel_rfl) (by kernel_rfl) (by kernel_rfl) (by kernel_rfl) (by kernel_rfl) (fun _ _ _ h => h) (Or.inl ⟨by rfl, ?_⟩) (by assumption) ?_
  rotate_left 1
  · intro wq hSw
    (try dsimp only at hSw)
    go_simp
    try with_reducible rfl
  try simp only [Act.put, List.setIfInBounds_toArray, List.set_cons_zero, List.set_cons_succ]
  refine wpTill_take (i := 7) (oi := ⟨some 30, _, _, _, _, _⟩) (v := ?_) rfl (by kernel_rfl) (by kernel_rfl) (by kernel_rfl) (by kernel_rfl) (by kernel_rfl) (fun _ _ _ h => h) (Or.inl ⟨by rfl, ?_⟩) (by assumption) ?_
  rotate_left 1
  · intro wq hSw
    (try dsimp only at hSw)
    go_simp
    try with_reducible rfl
  try simp only [Act.put, List.setIfInBounds_toArray, List.set_cons_zero, List.set_cons_succ]
  refine wpTill_pure (i := 8) (oi := ⟨some 31, _, _, _, _, _⟩) (v := ?_) rfl (by kernel_rfl) (by kernel_rfl) (by kernel_rfl) (fun _ _ _ h => h) (Or.inl ⟨by rfl, ?_⟩) ?_
  rotate_left 1
  · intro wq _
    go_simp
    try with_reducible rfl
  try simp only [Act.put, List.setIfInBounds_toArray, List.set_cons_zero, List.set_cons_succ]
  refine wpTill_pure (i := 9) (oi := ⟨some 32, _, _, _, _, _⟩) (v := ?_) rfl (by kernel_rfl) (by kernel_rfl) (by kernel_rfl) (fun _ _ _ h => h) (Or.inl ⟨by rfl, ?_⟩) ?_
  rotate_left 1
  · intro wq _
    go_simp
    try with_reducible rfl
  try simp only [Act.put, List.setIfInBounds_toArray, List.set_cons_zero, List.set_cons_succ]
  refine wpTill_pure (i := 10) (oi := ⟨some 33, _, _, _, _, _⟩) (v := ?_) rfl (by kernel_rfl) (by kernel_rfl) (by kernel_rfl) (fun _ _ _ h => h) (Or.inl ⟨by rfl, ?_⟩) ?_
  rotate_left 1
  · intro wq _
    go_simp
    try with_reducible rfl
  try simp only [Act.put, List.setIfInBounds_toArray, List.set_cons_zero, List.set_cons_succ]
  refine wpTill_pure (i := 11) (oi := ⟨some 34, _, _, _, _, _⟩) (v := ?_) rfl (by kernel_rfl) (by kernel_rfl) (by kernel_rfl) (fun _ _ _ h => h) (Or.inl ⟨by rfl, ?_⟩) ?_
  rotate_left 1
  · intro wq _
    go_simp
    try with_reducible rfl
  try simp only [Act.put, List.setIfInBounds_toArray, List.set_cons_zero, List.set_cons_succ]
  refine wpTill_pure (i := 12) (oi := ⟨some 35, _, _, _, _, _⟩) (v := ?_) rfl (by kernel_rfl) (by kernel_rfl) (by kernel_rfl) (fun _ _ _ h => h) (Or.inl ⟨by rfl, ?_⟩) ?_
  rotate_left 1
  · intro wq _
    go_simp
    try with_reducible rfl
  try simp only [Act.put, List.setIfInBounds_toArray, List.set_cons_zero, List.set_cons_succ]
  refine wpTill_late (i := 13) (o := ⟨some 36, _, _, _, _, _⟩) (by kernel_rfl) rfl (by kernel_rfl) (fun K hK => ?_)
  go_simp
  go_at_call 14
  refine (ref_same B1 B2 m1 m2 k1 k2 o o _ (by omega) (Rd.more (Rd.below HR1.out (HBK4.out.mono (by omega))) (by have := HBK4.out.size; omega)) (Rd.more (Rd.below HR2.out (HBK4.out.mono (by omega))) (by have := HBK4.out.size; omega))).mono ?_
  rintro e wk5 ⟨rfl, q5, h5⟩
  rw [show (o == o) = true by simp]
  have HBK5 := Lib.hid (show Below W2.heap.size W2 wk5 by rw [h5]; exact below_drewN HBK4.out q5)
  clear h5
  try dsimp only
  refine hK.out _ _ ?_
  clear hK K
  try simp only [Act.put, List.setIfInBounds_toArray, List.set_cons_zero, List.set_cons_succ]
  refine wpTill_pure (i := 14) (oi := ⟨some 37, _, _, _, _, _⟩) (v := ?_) rfl (by kernel_rfl) (by kernel_rfl) (by kernel_rfl) (fun _ _ _ h => h) (Or.inl ⟨by rfl, ?_⟩) ?_
  rotate_left 1
  · intro wq _
    go_simp
    try with_reducible rfl
  try simp only [Act.put, List.setIfInBounds_toArray, List.set_cons_zero, List.set_cons_succ]
  refine wpTill_pure (i := 15) (oi := ⟨some 38, _, _, _, _, _⟩) (v := ?_) rfl (by kernel_rfl) (by kernel_rfl) (by kernel_rfl) (fun _ _ _ h => h) (Or.inl ⟨by rfl, ?_⟩) ?_
  rotate_left 1
  · intro wq _
    go_simp
    try with_reducible rfl
  try simp only [Act.put, List.setIfInBounds_toArray, List.set_cons_zero, List.set_cons_succ]
  refine wpTill_pure (i := 16) (oi := ⟨some 39, _, _, _, _, _⟩) (v := ?_) rfl (by kernel_rfl) (by kernel_rfl) (by kernel_rfl) (fun _ _ _ h => h) (Or.inl ⟨by rfl, ?_⟩) ?_
  rotate_left 1
  · intro wq _
    go_simp
    try with_reducible rfl
  try simp only [Act.put, List.setIfInBounds_toArray, List.set_cons_zero, List.set_cons_succ]
  refine wpTill_pure (i := 18) (oi := ⟨some 41, _, _, _, _, _⟩) (v := ?_) rfl (by kernel_rfl) (by kernel_rfl) (by kernel_rfl) (fun _ _ _ h => h) (Or.inl ⟨by rfl, ?_⟩) ?_
  rotate_left 1
  · intro wq _
    go_simp
    try with_reducible rfl
  try simp only [Act.put, List.setIfInBounds_toArray, List.set_cons_zero, List.set_cons_succ]
  refine wpTill_late (i := 17) (o := ⟨some 40, _, _, _, _, _⟩) (by kernel_rfl) rfl (by kernel_rfl) (fun K hK => ?_)
  go_simp
  go_at_call 23
  refine (chain_upper r _).mono ?_
  rintro e wk6 ⟨rfl, hb6⟩
  have HBK6 := Lib.hid (HBK5.out.trans (hb6.mono HBK5.out.size))
  clear hb6
  try dsimp only
  refine hK.out _ _ ?_
  clear hK K
  try simp only [Act.put, List.setIfInBounds_toArray, List.set_cons_zero, List.set_cons_succ]
  refine wpTill_late (i := 19) (o := ⟨some 42, _, _, _, _, _⟩) (by kernel_rfl) rfl (by kernel_rfl) (fun K hK => ?_)
  go_simp
  go_at_call 24
  refine (ref_upper r _).mono ?_
  rintro e wk7 ⟨rfl, h7⟩
  have HBK7 := Lib.hid (show Below W2.heap.size W2 wk7 by rw [h7]; exact HBK6.out)
  clear h7
  try dsimp only
  refine hK.out _ _ ?_
  clear hK K
  try simp only [Act.put, List.setIfInBounds_toArray, List.set_cons_zero, List.set_cons_succ]
  refine wpTill_pure (i := 20) (oi := ⟨some 43, _, _, _, _, _⟩) (v := ?_) rfl (by kernel_rfl) (by kernel_rfl) (by kernel_rfl) (fun _ _ _ h => h) (Or.inl ⟨by rfl, ?_⟩) ?_
  rotate_left 1
  · intro wq _
    go_simp
    try with_reducible rfl
  try simp only [Act.put, List.setIfInBounds_toArray, List.set_cons_zero, List.set_cons_succ]
  refine wpTill_pure (i := 21) (oi := ⟨some 44, _, _, _, _, _⟩) (v := ?_) rfl (by kernel_rfl) (by kernel_rfl) (by kernel_rfl) (fun _ _ _ h => h) (Or.inl ⟨by rfl, ?_⟩) ?_
  rotate_left 1
  · intro wq _
    go_simp
    try with_reducible rfl
  try simp only [Act.put, List.setIfInBounds_toArray, List.set_cons_zero, List.set_cons_succ]
  refine wpTill_pure (i := 22) (oi := ⟨some 45, _, _, _, _, _⟩) (v := ?_) rfl (by kernel_rfl) (by kernel_rfl) (by kernel_rfl) (fun _ _ _ h => h) (Or.inl ⟨by rfl, ?_⟩) ?_
  rotate_left 1
  · intro wq _
    go_simp
    try with_reducible rfl
  try simp only [Act.put, List.setIfInBounds_toArray, List.set_cons_zero, List.set_cons_succ]
  refine wpTill_pure (i := 23) (oi := ⟨some 46, _, _, _, _, _⟩) (v := ?_) rfl (by kernel_rfl) (by kernel_rfl) (by kernel_rfl) (fun _ _ _ h => h) (Or.inl ⟨by rfl, ?_⟩) ?_
  rotate_left 1
  · intro wq _
    go_simp
    try with_reducible rfl
  try simp only [Act.put, List.setIfInBounds_toArray, List.set_cons_zero, List.set_cons_succ]
  refine wpTill_pure (i := 25) (oi := ⟨some 48, _, _, _, _, _⟩) (v := ?_) rfl (by kernel_rfl) (by kernel_rfl) (by kernel_rfl) (fun _ _ _ h => h) (Or.inl ⟨by rfl, ?_⟩) ?_
  rotate_left 1
  · intro wq _
    go_simp
    try with_reducible rfl
  try simp only [Act.put, List.setIfInBounds_toArray, List.set_cons_zero, List.set_cons_succ]
  refine wpTill_late (i := 24) (o := ⟨some 47, _, _, _, _, _⟩) (by kernel_rfl) rfl (by kernel_rfl) (fun K hK => ?_)
  go_simp
  go_at_call 25
  refine (chain_lower r _).mono ?_
  rintro e wk8 ⟨rfl, hb8⟩
  have HBK8 := Lib.hid (HBK7.out.trans (hb8.mono HBK7.out.size))
  clear hb8
  try dsimp only
  refine hK.out _ _ ?_
  clear hK K
  try simp only [Act.put, List.setIfInBounds_toArray, List.set_cons_zero, List.set_cons_succ]
  refine wpTill_late (i := 26) (o := ⟨some 49, _, _, _, _, _⟩) (by kernel_rfl) rfl (by kernel_rfl) (fun K hK => ?_)
  go_simp
  go_at_call 26
  refine (ref_lower r _).mono ?_
  rintro e wk9 ⟨rfl, h9⟩
  have HBK9 := Lib.hid (show Below W2.heap.size W2 wk9 by rw [h9]; exact HBK8.out)
  clear h9
  try dsimp only
  refine hK.out _ _ ?_
  clear hK K
  try simp only [Act.put, List.setIfInBounds_toArray, List.set_cons_zero, List.set_cons_succ]
  refine wpTill_pure (i := 27) (oi := ⟨some 50, _, _, _, _, _⟩) (v := ?_) rfl (by kernel_rfl) (by kernel_rfl) (by kernel_rfl) (fun _ _ _ h => h) (Or.inl ⟨by rfl, ?_⟩) ?_
  rotate_left 1
  · intro wq _
    go_simp
    try with_reducible rfl
  try simp only [Act.put, List.setIfInBounds_toArray, List.set_cons_zero, List.set_cons_succ]
  refine wpTill_pure (i := 28) (oi := ⟨some 51, _, _, _, _, _⟩) (v := ?_) rfl (by kernel_rfl) (by kernel_rfl) (by kernel_rfl) (fun _ _ _ h => h) (Or.inl ⟨by rfl, ?_⟩) ?_
  rotate_left 1
  · intro wq _
    go_simp
    try with_reducible rfl
  try simp only [Act.put, List.setIfInBounds_toArray, List.set_cons_zero, List.set_cons_succ]
  refine wpTill_pure (i := 29) (oi := ⟨some 6, _, _, _, _, _⟩) (v := ?_) rfl (by kernel_rfl) (by kernel_rfl) (by kernel_rfl) (fun _ _ _ h => h) (Or.inl ⟨by rfl, ?_⟩) ?_
  rotate_left 1
  · intro wq _
    go_simp
    try with_reducible rfl
  try simp only [Act.put, List.setIfInBounds_toArray, List.set_cons_zero, List.set_cons_succ]
  refine wpTill_done (by kernel_rfl) ?_ _
  go_simp
  go_wp2_with fail
  go_ret
  exact ⟨rfl, HB2.out.trans (HBK9.out.mono HB2.out.size)⟩

end Go.Proofs.Ytfmebbnccjaadaa
