/- slices.Sort at runes: for every slice of runes it sorts it in place; nothing else that was there is changed. -/
import Derived.Test.YtebpmfejhfkagaaSortBreak
namespace Go.Proofs.Ytebpmfejhfkagaa
open Go.RowKit Go.Sort

set_option maxRecDepth 100000 in
set_option maxHeartbeats 800000 in
theorem sort_runes (blk off cap sz : Nat) (d : Array Int) (w : World) (hs : d.size = sz) (hH : RowAt w blk off d) (hsz : sz < 2305843009213693952) :
    Calls Try.prog 14 #[.slice (some ⟨blk, off, none⟩) sz cap] w fun e w' => e = .returned (.tuple #[]) ∧ ∃ d', PermIn 0 sz d d' ∧ SortedIn ltInt 0 sz d' ∧ RowIs w blk off d' w' := by
  have hk : Lib.bitLen sz ≤ 61 := Lib.bitLen_le sz 61 (by omega) (by omega)
  have HL := Lib.hid (fun w' => Try.bits_Len (sz : Int) w' (by omega) (by omega))
  have HP := Lib.hid (fun lim (h : lim < 2305843009213693952) => sort_pdq sort_break sz blk off cap 0 sz lim sz d w (by omega) hs hH (Nat.zero_le _) (Nat.le_refl _) hsz h (.inl rfl))
  clear hs hH
  go_enter Try.func14, Try.ntmps14
  go_wp2_with fail
  refine (HL.out _).mono ?_
  rintro e w1 ⟨rfl, rfl⟩
  go_wp2_with fail
  refine (HP.out (Lib.bitLen sz) (by omega)).mono ?_
  rintro e w2 ⟨rfl, h⟩
  have H := Lib.hid h
  clear h
  go_wp2_with fail
  go_end0
  exact ⟨rfl, H.out⟩

end Go.Proofs.Ytebpmfejhfkagaa
