/- Numbers in base 16: the walks of strconv.FormatInt(n, 16) and of scriptref3.Hex. -/
import Derived.Test.YtdfljicijfceeaaDoorBits
namespace Go.Proofs.YtdfljicijfceeaaDoor
open Go.RowKit

/-- A digit's byte. -/
def hexd (d : Nat) : UInt8 := if d < 10 then UInt8.ofNat (48 + d) else UInt8.ofNat (87 + d)
/-- A number's digits in base 16. -/
def hexL (n : Nat) : List UInt8 := if n < 16 then [hexd n] else hexL (n / 16) ++ [hexd (n % 16)]
termination_by n
decreasing_by omega

theorem hexL_small {n : Nat} (h : n < 16) : hexL n = [hexd n] := by rw [hexL, if_pos h]
theorem hexL_big {n : Nat} (h : 16 ≤ n) : hexL n = hexL (n / 16) ++ [hexd (n % 16)] := by rw [hexL, if_neg (by omega)]
theorem hexL_length (d n : Nat) (h : n < 16 ^ (d + 1)) : (hexL n).length ≤ d + 1 := by
  induction d generalizing n with
  | zero => rw [hexL_small (by simpa using h)]; simp
  | succ d ih =>
    by_cases h1 : n < 16
    · rw [hexL_small h1]; simp
    · rw [hexL_big (by omega), List.length_append]
      have := ih (n / 16) (by rw [Nat.pow_succ] at h; omega)
      simp; omega

theorem drop_put {cs : Array Value} {q : Nat} {l : List Value} {v : Value} (h : cs.toList.drop (q + 1) = l) (hq : q < cs.size) : (cs.setIfInBounds q v).toList.drop q = v :: l := by
  rw [Array.toList_setIfInBounds, List.drop_eq_getElem_cons (by simpa using hq), List.getElem_set_self, List.drop_set_of_lt (by omega), h]

def FbRel (w : World) (n : Nat) (i u : Value) (wr : World) : Prop :=
  ∃ (p rem d : Nat) (acc : List UInt8) (cs : Array Value), i = .int .i64 p ∧ u = .int .u64 rem ∧ p + acc.length = 65 ∧ acc.length + d + 1 = 6 ∧ rem < 16 ^ (d + 1) ∧ hexL n = hexL rem ++ acc ∧
    Blk wr w.heap.size 113 cs ∧ cs.size = 65 ∧ cs.toList.drop p = Lib.byteCells acc ∧ Below w.heap.size w wr

theorem and15 (rem : Nat) (h : rem < 16777216) : bits BinOp.and IntKind.u64 (rem : Int) 15 = ((rem % 16 : Nat) : Int) := by
  have h := bits_mask .u64 63 (by decide) (fun n h0 h1 => by rw [show (2 : Int) ^ 63 = 9223372036854775808 by decide] at h1; rw [IntKind.wrap_u64]; omega) 4 (by decide) (rem : Int) (by omega) (by rw [show (2 : Int) ^ 63 = 9223372036854775808 by decide]; omega)
  rw [show ((2 : Int) ^ 4 - 1) = 15 by decide] at h
  rw [h]
  omega

def digits : ByteArray := ⟨#[48, 49, 50, 51, 52, 53, 54, 55, 56, 57, 97, 98, 99, 100, 101, 102, 103, 104, 105, 106, 107, 108, 109, 110, 111, 112, 113, 114, 115, 116, 117, 118, 119, 120, 121, 122]⟩
theorem dig_all : ∀ i : Fin 16, digits[i.val]'(Nat.lt_trans i.2 (by decide)) = hexd i.val := by decide
theorem dig (k : Nat) (hk : k < 16) (h : k < digits.size) : digits[k]'h = hexd k := dig_all ⟨k, hk⟩

theorem zero65 (w : World) : (zeroValue 113).run Tryd.prog w = .ok (.agg (Array.replicate 65 (.int .u8 0))) w := by kernel_rfl

theorem slice65 (g q : Nat) (hq : q < 65) (w : World) : (Instr.sliceAt 113 (.pointer (some ⟨g, 0, none⟩)) (some (.int .i64 q)) none none).run Tryd.prog w = .ok (.slice (some ⟨g, q, none⟩) (65 - q) (65 - q)) w := by
  have h1 : Tryd.prog.arrayLen 113 = 65 := by kernel_rfl
  have h2 : Tryd.prog.elem 113 = 5 := by kernel_rfl
  have h3 : ∀ w, (sizeOf 5).run Tryd.prog w = .ok 1 w := fun w => by kernel_rfl
  rw [run_sliceAt_array_l w _ _ (by rw [h1, h2]; exact Tryd.underlying113) .i64 q (by omega) (by rw [h1]; omega), h1, h2, h3]
  simp only [Result.andThen, slicedAt, Int.toNat_natCast, Nat.mul_one]
  rw [if_neg (by omega)]
  simp [Addr.add]
  intro h
  exact h.symm

theorem back65 (w : World) (g q : Nat) (l : List UInt8) (hl : l.length = 65 - q) (cs : Array Value) (hb : Blk w g 113 cs) (hd : cs.toList.drop q = Lib.byteCells l) : (convert 31 9 (.slice (some ⟨g, q, none⟩) (65 - q) (65 - q))).run Tryd.prog w = .ok (.string ⟨l.toArray⟩) w := by
  rw [← hl]
  refine run_convert_bytes_back w 31 9 5 ⟨g, q, none⟩ _ l Tryd.underlying31 Tryd.underlying5 Tryd.underlying9 (fun j hj => ?_)
  have e : (⟨g, q, none⟩ : Addr).add j = ⟨g, q + j, none⟩ := by simp [Addr.add]
  rw [e, hb.cell, ← Array.getElem?_toList, ← List.getElem?_drop, hd]
  simp [Lib.byteCells, List.getElem?_eq_getElem hj]

set_option maxRecDepth 100000 in
set_option maxHeartbeats 1600000 in
theorem format_bits (n : Nat) (hn : n < 16777216) (w : World) (hd : w.cell? ⟨5, 15, none⟩ = some (.int .u8 4)) :
    Calls Tryd.prog 75 #[.slice none 0 0, .int .u64 n, .int .i64 16, .bool false, .bool false] w fun e w' => e = .returned (.tuple #[.slice none 0 0, .string ⟨(hexL n).toArray⟩]) ∧ Below w.heap.size w w' := by
  obtain ⟨Z, hZ, hZs⟩ : ∃ Z, Z = Array.replicate 65 (Value.int .u8 0) ∧ Z.size = 65 := ⟨_, rfl, by simp⟩
  have hz65 : ∀ w, (zeroValue 113).run Tryd.prog w = .ok (.agg Z) w := fun w => by rw [hZ]; exact zero65 w
  have HZ := Lib.hid hZs
  clear hZ hZs
  have hlt : 5 < w.heap.size := by
    rcases Nat.lt_or_ge 5 w.heap.size with h | h
    · exact h
    · exfalso
      unfold World.cell? at hd
      simp [Array.getElem?_eq_none h] at hd
  have hd2 : (w.alloc (.cells Z 113)).cell? ⟨5, 15, none⟩ = some (.int .u8 4) := (((Below.refl w.heap.size w).alloc (Nat.le_refl _) _).cell hlt).trans hd
  go_enter Tryd.func75, Tryd.ntmps75
  go_wp2_with (first | (go_at_call 82; refine (is_pow _).mono ?_; rintro e w' ⟨rfl, rfl⟩) | (go_at_call 83; refine (tz _ hd2).mono ?_; rintro e w' ⟨rfl, rfl⟩))
  go_loopw [13, 1] (FbRel w n) (fun _ u _ => (intOf u).toNat)
  case atStart => exact ⟨65, n, 5, [], Z, rfl, rfl, rfl, rfl, by simpa using hn, by rw [List.append_nil], Blk.new _ _ _, HZ.out, by rw [List.drop_of_length_le (by rw [Array.length_toList, HZ.out]; exact Nat.le_refl _)]; rfl, (Below.refl _ _).alloc (Nat.le_refl _) _⟩
  case round =>
    obtain ⟨p, rem, d, acc, cs, rfl, rfl, hp, hdd, hrem, hhex, hblk, hcs, hdrop, hb⟩ := hrel
    have hz := hb.size
    obtain ⟨q, rfl⟩ : ∃ q, p = q + 1 := ⟨p - 1, by omega⟩
    have hlow : rem < 16777216 := Nat.lt_of_lt_of_le hrem (by have : 16 ^ (d + 1) ≤ 16 ^ 6 := Nat.pow_le_pow_right (by omega) (by omega); simpa using this)
    by_cases h16 : 16 ≤ rem
    · have ha := and15 rem (by omega)
      have c0 : wr.cell? ⟨w.heap.size, q, none⟩ = some cs[q] := by rw [hblk.cell, Array.getElem?_eq_getElem]
      have f0 := hblk.frozen q
      have hqw : IntKind.i64.wrap (q : Int) = (q : Int) := IntWalk.i64_in _ (by omega)
      have HH := Lib.hid hhex
      have HR := Lib.hid hrem
      have HB := Lib.hid hblk
      have HD := Lib.hid hdrop
      clear hhex hrem hblk hdrop
      go_wp2_with fail
      have he := dig (rem % 16) (by omega) (by show _ < 36; omega)
      unfold digits at he
      rw [he]
      obtain ⟨d, rfl⟩ : ∃ e, d = e + 1 := by
        rcases Nat.eq_zero_or_pos d with rfl | h
        · have := HR.out; simp at this; omega
        · exact ⟨d - 1, by omega⟩
      refine ⟨⟨q, rem / 16, d, hexd (rem % 16) :: acc, _, rfl, by simp, by simp; omega, by simp; omega, ?_, ?_, HB.out.put _ _, by simpa using hcs, ?_, hb.setCell (Nat.le_refl _) _⟩, ?_⟩
      · have := HR.out
        rw [Nat.pow_succ] at this
        omega
      · rw [HH.out, hexL_big h16, List.append_assoc]; rfl
      · exact drop_put HD.out (by omega)
      · simp only [intOf]; omega
    · have c0 : wr.cell? ⟨w.heap.size, q, none⟩ = some cs[q] := by rw [hblk.cell, Array.getElem?_eq_getElem]
      have f0 := hblk.frozen q
      have hqw : IntKind.i64.wrap (q : Int) = (q : Int) := IntWalk.i64_in _ (by omega)
      have HH := Lib.hid hhex
      have HB := Lib.hid hblk
      have HD := Lib.hid hdrop
      have h17 : rem < 16 := by omega
      clear hhex hrem hblk hdrop
      have he := dig rem h17 (by show _ < 36; omega)
      unfold digits at he
      have hsl := slice65 w.heap.size q (by omega)
      have hcv := back65 (wr.setCell ⟨w.heap.size, q, none⟩ (.int .u8 (hexd rem).toNat)) w.heap.size q (hexL n) (by rw [HH.out, hexL_small h17]; simp; omega) _ (HB.out.put q _) (by rw [drop_put HD.out (by omega), HH.out, hexL_small h17]; rfl)
      go_wp2_with fail
      go_ret2
      exact ⟨rfl, hb.setCell (Nat.le_refl _) _⟩

theorem format_int (n : Nat) (hn : n < 16777216) (w : World) (hd : w.cell? ⟨5, 15, none⟩ = some (.int .u8 4)) :
    Calls Tryd.prog 65 #[.int .i64 n, .int .i64 16] w fun e w' => e = .returned (.string ⟨(hexL n).toArray⟩) ∧ Below w.heap.size w w' := by
  have hw : IntKind.u64.wrap (n : Int) = (n : Int) := IntWalk.u64_in _ (by omega)
  have hneg : decide ((n : Int) < 0) = false := decide_eq_false (by omega)
  go_enter Tryd.func65, Tryd.ntmps65
  go_wp2_with fail
  refine (format_bits n hn _ hd).mono ?_
  rintro e w' ⟨rfl, hb⟩
  go_wp2_with fail
  go_ret
  exact ⟨rfl, hb⟩

theorem strconv_int (n : Nat) (hn : n < 16777216) (w : World) (hd : w.cell? ⟨5, 15, none⟩ = some (.int .u8 4)) :
    Calls Tryd.prog 47 #[.int .i64 n, .int .i64 16] w fun e w' => e = .returned (.string ⟨(hexL n).toArray⟩) ∧ Below w.heap.size w w' := by
  go_enter Tryd.func47, Tryd.ntmps47
  go_wp2_with fail
  refine (format_int n hn _ hd).mono ?_
  rintro e w' ⟨rfl, hb⟩
  go_wp2_with fail
  go_ret
  exact ⟨rfl, hb⟩

theorem dig1_all : ∀ i : Fin 16, (⟨#[48, 49, 50, 51, 52, 53, 54, 55, 56, 57, 97, 98, 99, 100, 101, 102]⟩ : ByteArray).extract i.val (i.val + 1) = ⟨#[hexd i.val]⟩ := by decide +kernel

theorem ref_hex_small (n : Nat) (h16 : n < 16) (w : World) :
    Calls Tryd.prog 57 #[.int .i64 n] w fun e w' => e = .returned (.string ⟨(hexL n).toArray⟩) ∧ w = w' := by
  have he := dig1_all ⟨n, h16⟩
  dsimp only at he
  rw [hexL_small h16]
  go_enter Tryd.func57, Tryd.ntmps57
  go_wp2_with fail
  go_ret
  exact ⟨rfl, rfl⟩

theorem ba_append (X Y : List UInt8) : (⟨X.toArray⟩ : ByteArray) ++ ⟨Y.toArray⟩ = ⟨(X ++ Y).toArray⟩ := by
  apply ByteArray.ext
  simp

set_option maxHeartbeats 800000 in
theorem ref_hex (d : Nat) : ∀ (n : Nat), n < 16 ^ (d + 1) → n < 16777216 → ∀ w,
    Calls Tryd.prog 57 #[.int .i64 n] w fun e w' => e = .returned (.string ⟨(hexL n).toArray⟩) ∧ w = w' := by
  induction d with
  | zero => exact fun n h _ w => ref_hex_small n (by simpa using h) w
  | succ d ih =>
    intro n hn hn2 w
    by_cases h16 : n < 16
    · exact ref_hex_small n h16 w
    · have e1 : ((n / 16 : Nat) : Int) = (n : Int) / 16 := by omega
      have e2 : ((n % 16 : Nat) : Int) = (n : Int) % 16 := by omega
      have h1 := ih (n / 16) (by rw [Nat.pow_succ] at hn; omega) (by omega) w
      have h2 := ref_hex_small (n % 16) (by omega) w
      rw [e1] at h1
      rw [e2] at h2
      have hl : hexL n = hexL (n / 16) ++ hexL (n % 16) := by rw [hexL_big (n := n) (by omega), hexL_small (n := n % 16) (by omega)]
      rw [hl, ← ba_append]
      have hX := hexL_length 5 (n / 16) (by omega)
      have hY := hexL_length 5 (n % 16) (by omega)
      generalize hexL (n / 16) = X at *
      generalize hexL (n % 16) = Y at *
      have H1 := Lib.hid h1
      have H2 := Lib.hid h2
      clear h1 h2 e1 e2 ih hn hl
      go_enter Tryd.func57, Tryd.ntmps57
      go_wp2_with fail
      refine H1.out.mono ?_
      rintro e w' ⟨rfl, rfl⟩
      go_wp2_with fail
      refine H2.out.mono ?_
      rintro e w' ⟨rfl, rfl⟩
      go_wp2_with fail
      go_ret
      exact ⟨rfl, rfl⟩

end Go.Proofs.YtdfljicijfceeaaDoor
