/- The walk of scriptlaw10.CompileTells: for every list of rules it returns true; nothing that was there is changed. -/
import Derived.Test.YtebpmfejhfkagaaCompile
import Derived.Test.YtebpmfejhfkagaaRefCompile
import Derived.Test.YtebpmfejhfkagaaHeadsSame
namespace Go.Proofs.Ytebpmfejhfkagaa
open Go.RowKit

set_option maxRecDepth 100000 in
set_option maxHeartbeats 1600000 in
theorem compile_tells (A : Option Addr) (n c : Nat) (l : List RuleD) (w : World) (hn : n ≤ maxLen) (hl : ListX (RuleC w Any0) w Any0 7 A n l) :
    Calls Try.prog 3 #[.slice A n c] w fun e w' => e = .returned (.bool true) ∧ Below w.heap.size w w' := by
  have H1 := Lib.hid (compile_heads Any0 l A n c w hn hl)
  have H2 := Lib.hid (fun (w1 : World) (hb : Below w.heap.size w w1) => ref_compile Any0 l A n c w1 hn (hl.keep (Keeps.any hb) (fun _ _ => RuleC.keep (Keeps.any hb))))
  clear hl
  generalize compP l = R at *
  obtain ⟨hs, r1, r2⟩ := R
  dsimp only at *
  go_enter Try.func3, Try.ntmps3
  go_wp2_with fail
  refine H1.out.mono ?_
  rintro e w1 ⟨⟨v, rfl, hv⟩, hb1⟩
  obtain ⟨A1, c1, rfl, h1, hn1⟩ := hv.form
  have HF1 := Lib.hid (Blk.new w1 26 #[.int .i64 r1, .int .i64 r2])
  have HB1 := Lib.hid (hb1.alloc hb1.size (.cells #[.int .i64 r1, .int .i64 r2] 26))
  have HL1 := Lib.hid (h1.keep (Keeps.alloc (.cells #[.int .i64 r1, .int .i64 r2] 26) (fun _ _ _ => trivial)) (fun _ _ => HeadC.keep (X' := Any0) (Keeps.alloc (.cells #[.int .i64 r1, .int .i64 r2] 26) (fun _ _ _ => trivial))))
  clear hv h1 hb1
  go_wp2_with fail
  refine (H2.out _ HB1.out).mono ?_
  rintro e w2 ⟨⟨v, rfl, hv⟩, hb2⟩
  obtain ⟨A2, c2, rfl, h2, _⟩ := hv.form
  have hf1 := (Blk.below HF1.out hb2 HF1.out.lt).alloc (.cells #[.int .i64 r1, .int .i64 r2] 26)
  have hf2 := Blk.new w2 26 #[.int .i64 r1, .int .i64 r2]
  have hb3 := (Below.refl w2.heap.size w2).alloc (Nat.le_refl _) (.cells #[.int .i64 r1, .int .i64 r2] 26)
  have HB3 := Lib.hid (HB1.out.trans (((hb2.trans (hb3.mono hb2.size))).mono HB1.out.size))
  have a0 := hf1.cell 0
  have a1 := hf1.cell 1
  have e0 := hf2.cell 0
  have e1 := hf2.cell 1
  have HS := Lib.hid (heads_same Any0 Any0 A1 A2 hs.length c1 c2 hs (w2.alloc (.cells #[.int .i64 r1, .int .i64 r2] 26)) hn1
    ((HL1.out.keep (Keeps.any hb2) (fun _ _ => HeadC.keep (Keeps.any hb2))).keep (Keeps.any hb3) (fun _ _ => HeadC.keep (Keeps.any hb3)))
    (h2.keep (Keeps.below hb3 (fun _ _ _ => trivial)) (fun _ _ => HeadC.keep (Keeps.below hb3 (fun _ _ _ => trivial)))))
  clear hf1 hf2 hb3 hv h2 hb2
  go_wp2_with fail
  refine HS.out.mono ?_
  rintro e w4 ⟨rfl, q, rfl⟩
  go_wp2_with fail
  go_ret
  exact ⟨rfl, below_drewN HB3.out q⟩

end Go.Proofs.Ytebpmfejhfkagaa
