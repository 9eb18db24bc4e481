/- Small and great letters: the walks of chain.rows, Upper, Lower and of scriptref13.Upper, Lower: upP, lowP. -/
import Derived.Test.YtfmebbnccjaadaaMem
import Derived.Test.YtfmebbnccjaadaaRows
import Derived.Deep.QuietTactic
namespace Go.Proofs.Ytfmebbnccjaadaa
open Go.RowKit

def rowsL : List (Int × Int × Int) := [(97, 122, 32), (224, 246, 32), (248, 254, 32), (945, 961, 32), (963, 969, 32), (1072, 1103, 32), (1104, 1119, 80)]
def upGo : List (Int × Int × Int) → Int → Int
  | [], r => r
  | x :: l, r => if x.1 ≤ r ∧ r ≤ x.2.1 then r - x.2.2 else upGo l r
def lowGo : List (Int × Int × Int) → Int → Int
  | [], r => r
  | x :: l, r => if x.1 - x.2.2 ≤ r ∧ r ≤ x.2.1 - x.2.2 then r + x.2.2 else lowGo l r
def upP (r : Int) : Int := upGo rowsL r
def lowP (r : Int) : Int := lowGo rowsL r
def rowCells : Array Value := #[.int .i32 97, .int .i32 122, .int .i32 32, .int .i32 224, .int .i32 246, .int .i32 32, .int .i32 248, .int .i32 254, .int .i32 32, .int .i32 945, .int .i32 961, .int .i32 32, .int .i32 963, .int .i32 969, .int .i32 32, .int .i32 1072, .int .i32 1103, .int .i32 32, .int .i32 1104, .int .i32 1119, .int .i32 80]
theorem row_cell {k : Nat} {x : Int × Int × Int} (h : rowsL[k]? = some x) : rowCells[k * 3]? = some (.int .i32 x.1) ∧ rowCells[k * 3 + 1]? = some (.int .i32 x.2.1) ∧ rowCells[k * 3 + 2]? = some (.int .i32 x.2.2) ∧ 0 ≤ x.1 - x.2.2 ∧ x.1 ≤ 1119 ∧ x.2.1 ≤ 1119 ∧ 0 ≤ x.2.2 ∧ x.2.2 ≤ 80 ∧ 0 ≤ x.2.1 - x.2.2 := by
  match k, h with
  | 0, h => cases h; exact ⟨rfl, rfl, rfl, by decide, by decide, by decide, by decide, by decide, by decide⟩
  | 1, h => cases h; exact ⟨rfl, rfl, rfl, by decide, by decide, by decide, by decide, by decide, by decide⟩
  | 2, h => cases h; exact ⟨rfl, rfl, rfl, by decide, by decide, by decide, by decide, by decide, by decide⟩
  | 3, h => cases h; exact ⟨rfl, rfl, rfl, by decide, by decide, by decide, by decide, by decide, by decide⟩
  | 4, h => cases h; exact ⟨rfl, rfl, rfl, by decide, by decide, by decide, by decide, by decide, by decide⟩
  | 5, h => cases h; exact ⟨rfl, rfl, rfl, by decide, by decide, by decide, by decide, by decide, by decide⟩
  | 6, h => cases h; exact ⟨rfl, rfl, rfl, by decide, by decide, by decide, by decide, by decide, by decide⟩
theorem drop_row {k : Nat} {x : Int × Int × Int} (h : rowsL[k]? = some x) : rowsL.drop k = x :: rowsL.drop (k + 1) := by
  obtain ⟨hj, rfl⟩ := List.getElem?_eq_some_iff.1 h
  exact List.drop_eq_getElem_cons hj

theorem chain_rows (w : World) :
    Calls Try.prog 64 #[] w fun e w' => e = .returned (.slice (some ⟨w.heap.size, 0, none⟩) 7 7) ∧ w' = w.alloc (.cells rowCells 114) := by
  go_enter Try.func64, Try.ntmps64
  go_wp2_with fail
  go_ret
  exact ⟨rfl, rfl⟩
def UpRel (w : World) (r : Int) (i : Value) (wr : World) : Prop := ∃ k : Nat, k ≤ 7 ∧ i = .int .i64 k ∧ upP r = upGo (rowsL.drop k) r ∧ Blk wr w.heap.size 114 rowCells ∧ Below w.heap.size w wr
def LowRel (w : World) (r : Int) (i : Value) (wr : World) : Prop := ∃ k : Nat, k ≤ 7 ∧ i = .int .i64 k ∧ lowP r = lowGo (rowsL.drop k) r ∧ Blk wr w.heap.size 114 rowCells ∧ Below w.heap.size w wr

set_option maxRecDepth 100000 in
set_option maxHeartbeats 1600000 in
theorem chain_upper (r : Int) (w : World) : Calls Try.prog 23 #[.int .i32 r] w fun e w' => e = .returned (.int .i32 (upP r)) ∧ Below w.heap.size w w' := by
  have HR := Lib.hid (chain_rows w)
  have HB0 := Lib.hid ((Below.refl w.heap.size w).alloc (Nat.le_refl _) (.cells rowCells 114))
  have HK0 := Lib.hid (Blk.new w 114 rowCells)
  go_enter Try.func23, Try.ntmps23
  go_wp2_with fail
  refine HR.out.mono ?_
  rintro e w1 ⟨rfl, rfl⟩
  generalize w.alloc (.cells rowCells 114) = W0 at *
  go_wp2_with fail
  go_loopw [7] (UpRel w r) (fun i _ => 7 - (intOf i).toNat)
  case atStart => exact ⟨0, Nat.zero_le _, rfl, rfl, HK0.out, HB0.out⟩
  case round =>
    obtain ⟨k, hk, rfl, hgo, hkb, hb⟩ := hrel
    by_cases hlt : k < 7
    · have hk7 : decide ((k : Int) < 7) = true := decide_eq_true (by omega)
      obtain ⟨x, hx⟩ : ∃ z, rowsL[k]? = some z := ⟨_, List.getElem?_eq_getElem hlt⟩
      obtain ⟨c0, c1, c2, b1, b2, b3, b4, b5, b6⟩ := row_cell hx
      have d0 : wr.cell? ⟨w.heap.size, k * 3, none⟩ = some (.int .i32 x.1) := (hkb.cell _).trans c0
      have d1 : wr.cell? ⟨w.heap.size, k * 3 + 1, none⟩ = some (.int .i32 x.2.1) := (hkb.cell _).trans c1
      have d2 : wr.cell? ⟨w.heap.size, k * 3 + 2, none⟩ = some (.int .i32 x.2.2) := (hkb.cell _).trans c2
      rw [drop_row hx, upGo] at hgo
      have HGO := Lib.hid hgo
      obtain ⟨lo, hi, ah⟩ := x
      dsimp only at *
      have HK := Lib.hid (hkb.alloc (.cells #[.int .i32 lo, .int .i32 hi, .int .i32 ah] 114))
      have HB := Lib.hid (hb.alloc hb.size (.cells #[.int .i32 lo, .int .i32 hi, .int .i32 ah] 114))
      clear hgo hkb hb c0 c1 c2 hx
      by_cases h1 : lo ≤ r
      · by_cases h2 : r ≤ hi
        · have hw : IntKind.i32.wrap (r - ah) = r - ah := by rw [IntKind.wrap_i32]; omega
          have HG := Lib.hid (HGO.out.trans (if_pos ⟨h1, h2⟩))
          go_wp2_with fail
          go_ret
          exact ⟨ret_int HG.out.symm, HB.out⟩
        · have HG := Lib.hid (HGO.out.trans (if_neg (fun h => h2 h.2)))
          go_wp2_with fail
          exact ⟨⟨k + 1, by omega, by go_num, HG.out, HK.out, HB.out⟩, by simp [intOf]; omega⟩
      · have HG := Lib.hid (HGO.out.trans (if_neg (fun h => h1 h.1)))
        go_wp2_with fail
        exact ⟨⟨k + 1, by omega, by go_num, HG.out, HK.out, HB.out⟩, by simp [intOf]; omega⟩
    · obtain rfl : k = 7 := by omega
      have HG := Lib.hid (hgo.trans (show upGo (rowsL.drop 7) r = r from rfl))
      clear hgo hkb
      go_wp2_with fail
      go_ret
      exact ⟨ret_int HG.out.symm, hb⟩

set_option maxRecDepth 100000 in
set_option maxHeartbeats 1600000 in
theorem chain_lower (r : Int) (w : World) : Calls Try.prog 25 #[.int .i32 r] w fun e w' => e = .returned (.int .i32 (lowP r)) ∧ Below w.heap.size w w' := by
  have HR := Lib.hid (chain_rows w)
  have HB0 := Lib.hid ((Below.refl w.heap.size w).alloc (Nat.le_refl _) (.cells rowCells 114))
  have HK0 := Lib.hid (Blk.new w 114 rowCells)
  go_enter Try.func25, Try.ntmps25
  go_wp2_with fail
  refine HR.out.mono ?_
  rintro e w1 ⟨rfl, rfl⟩
  generalize w.alloc (.cells rowCells 114) = W0 at *
  go_wp2_with fail
  go_loopw [7] (LowRel w r) (fun i _ => 7 - (intOf i).toNat)
  case atStart => exact ⟨0, Nat.zero_le _, rfl, rfl, HK0.out, HB0.out⟩
  case round =>
    obtain ⟨k, hk, rfl, hgo, hkb, hb⟩ := hrel
    by_cases hlt : k < 7
    · have hk7 : decide ((k : Int) < 7) = true := decide_eq_true (by omega)
      obtain ⟨x, hx⟩ : ∃ z, rowsL[k]? = some z := ⟨_, List.getElem?_eq_getElem hlt⟩
      obtain ⟨c0, c1, c2, b1, b2, b3, b4, b5, b6⟩ := row_cell hx
      have d0 : wr.cell? ⟨w.heap.size, k * 3, none⟩ = some (.int .i32 x.1) := (hkb.cell _).trans c0
      have d1 : wr.cell? ⟨w.heap.size, k * 3 + 1, none⟩ = some (.int .i32 x.2.1) := (hkb.cell _).trans c1
      have d2 : wr.cell? ⟨w.heap.size, k * 3 + 2, none⟩ = some (.int .i32 x.2.2) := (hkb.cell _).trans c2
      rw [drop_row hx, lowGo] at hgo
      have HGO := Lib.hid hgo
      obtain ⟨lo, hi, ah⟩ := x
      dsimp only at *
      have HK := Lib.hid (hkb.alloc (.cells #[.int .i32 lo, .int .i32 hi, .int .i32 ah] 114))
      have HB := Lib.hid (hb.alloc hb.size (.cells #[.int .i32 lo, .int .i32 hi, .int .i32 ah] 114))
      have hw1 : IntKind.i32.wrap (lo - ah) = lo - ah := by rw [IntKind.wrap_i32]; omega
      have hw2 : IntKind.i32.wrap (hi - ah) = hi - ah := by rw [IntKind.wrap_i32]; omega
      clear hgo hkb hb c0 c1 c2 hx
      by_cases h1 : lo - ah ≤ r
      · by_cases h2 : r ≤ hi - ah
        · have hw : IntKind.i32.wrap (r + ah) = r + ah := by rw [IntKind.wrap_i32]; omega
          have HG := Lib.hid (HGO.out.trans (if_pos ⟨h1, h2⟩))
          go_wp2_with fail
          go_ret
          exact ⟨ret_int HG.out.symm, HB.out⟩
        · have HG := Lib.hid (HGO.out.trans (if_neg (fun h => h2 h.2)))
          go_wp2_with fail
          exact ⟨⟨k + 1, by omega, by go_num, HG.out, HK.out, HB.out⟩, by simp [intOf]; omega⟩
      · have HG := Lib.hid (HGO.out.trans (if_neg (fun h => h1 h.1)))
        go_wp2_with fail
        exact ⟨⟨k + 1, by omega, by go_num, HG.out, HK.out, HB.out⟩, by simp [intOf]; omega⟩
    · obtain rfl : k = 7 := by omega
      have HG := Lib.hid (hgo.trans (show lowGo (rowsL.drop 7) r = r from rfl))
      clear hgo hkb
      go_wp2_with fail
      go_ret
      exact ⟨ret_int HG.out.symm, hb⟩

theorem upP_eq (r : Int) : upP r = if (97 ≤ r ∧ r ≤ 122) ∨ ((224 ≤ r ∧ r ≤ 254) ∧ r ≠ 247) ∨ ((945 ≤ r ∧ r ≤ 969) ∧ r ≠ 962) ∨ (1072 ≤ r ∧ r ≤ 1103) then r - 32 else if 1104 ≤ r ∧ r ≤ 1119 then r - 80 else r := by
  simp only [upP, rowsL, upGo]
  repeat' split
  all_goals omega
theorem lowP_eq (r : Int) : lowP r = if (65 ≤ r ∧ r ≤ 90) ∨ ((192 ≤ r ∧ r ≤ 222) ∧ r ≠ 215) ∨ ((913 ≤ r ∧ r ≤ 937) ∧ r ≠ 930) ∨ (1040 ≤ r ∧ r ≤ 1071) then r + 32 else if 1024 ≤ r ∧ r ≤ 1039 then r + 80 else r := by
  simp only [lowP, rowsL, lowGo]
  repeat' split
  all_goals omega

set_option maxRecDepth 100000 in
set_option maxHeartbeats 1600000 in
theorem ref_upper (r : Int) (w : World) : Calls Try.prog 24 #[.int .i32 r] w fun e w' => e = .returned (.int .i32 (upP r)) ∧ w' = w := by
  have HP := Lib.hid (upP_eq r)
  have hw1 : 97 ≤ r → r ≤ 2000 → IntKind.i32.wrap (r - 32) = r - 32 := fun h1 h2 => by rw [IntKind.wrap_i32]; omega
  go_enter Try.func24, Try.ntmps24
  go_wp2_with fail
  all_goals go_ret
  all_goals refine ⟨ret_int ?_, rfl⟩
  all_goals rw [HP.out]
  all_goals repeat' split
  all_goals simp_all
  all_goals omega

set_option maxRecDepth 100000 in
set_option maxHeartbeats 1600000 in
theorem ref_lower (r : Int) (w : World) : Calls Try.prog 26 #[.int .i32 r] w fun e w' => e = .returned (.int .i32 (lowP r)) ∧ w' = w := by
  have HP := Lib.hid (lowP_eq r)
  go_enter Try.func26, Try.ntmps26
  go_wp2_with fail
  all_goals go_ret
  all_goals refine ⟨ret_int ?_, rfl⟩
  all_goals rw [HP.out]
  all_goals repeat' split
  all_goals simp_all
  all_goals omega

end Go.Proofs.Ytfmebbnccjaadaa
