/- The walk of scriptlaw3.SetsynPrints: for every set it returns true; nothing that was there is changed. -/
import Derived.Test.YtmpdanibbbjehaaDoorPrint
namespace Go.Proofs.YtmpdanibbbjehaaDoor
open Go.RowKit Go.Shelf

set_option maxRecDepth 100000 in
theorem setsyn_prints (A : Option Addr) (n c : Nat) (l : Spans) (w : World) (hn : n ≤ 9223372036854775807) (hl : RdS w w.heap.size A n l) (hd : w.cell? ⟨2, 15, none⟩ = some (.int .u8 4)) :
    Calls Tryd.prog 3 #[.slice A n c] w fun e w' => e = .returned (.bool true) ∧ Below w.heap.size w w' := by
  have hlt : 2 < w.heap.size := by
    rcases Nat.lt_or_ge 2 w.heap.size with h | h
    · exact h
    · exfalso
      unfold World.cell? at hd
      simp [Array.getElem?_eq_none h] at hd
  have HL := Lib.hid hl
  clear hl
  go_enter Tryd.func3, Tryd.ntmps3
  go_wp2_with fail
  refine (setsyn_print A n c l w hn HL.out hd hlt).mono ?_
  rintro e w1 ⟨rfl, hb1⟩
  have hz1 := hb1.size
  have hl1 : RdS w1 w1.heap.size A n l := Rd.more (Rd.below HL.out hb1) hz1
  clear hd
  have h2 := ref_print A n c l w1 hn hl1
  generalize printP l = R at h2 ⊢
  have H2 := Lib.hid h2
  clear h2
  go_wp2_with fail
  refine H2.out.mono ?_
  rintro e w2 ⟨rfl, hb2⟩
  go_wp2_with fail
  go_ret
  exact ⟨rfl, hb1.trans (hb2.mono hz1)⟩

end Go.Proofs.YtmpdanibbbjehaaDoor
