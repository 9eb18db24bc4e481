/- The base's own bits: isPowerOfTwo(16), TrailingZeros(16). -/
import Derived.Test.YthnhbcohfoodlaaGreatDoorKinds
import Derived.Test.YthnhbcohfoodlaaGreatDoorRight
import Derived.Lib.RuneBytes
import Derived.Test.YthnhbcohfoodlaaGreatDoorShelf
import Derived.Lib.FrozenHead
import Derived.Lib.FrozenHead2
import Derived.Test.YthnhbcohfoodlaaGreatDoorSpan
import Derived.Test.YthnhbcohfoodlaaGreatDoorUtf
import Derived.Lib.MapLaws
import Derived.Laws.Runes
import Derived.Test.YthnhbcohfoodlaaGreatDoorSpoilt
import Derived.Test.YthnhbcohfoodlaaGreatDoorSynMono
import Derived.Test.YthnhbcohfoodlaaGreatDoorSetWork
import Derived.Test.YthnhbcohfoodlaaGreatDoorRunesText
namespace Go.Proofs.YthnhbcohfoodlaaGreatDoor
open Go.RowKit

theorem is_pow (w : World) : Calls Tryz.prog 189 #[.int .i64 16] w fun e w' => e = .returned (.bool true) ∧ w = w' := by
  have hb : bits BinOp.and IntKind.i64 16 15 = 0 := by decide +kernel
  go_enter Tryz.func189, Tryz.ntmps189
  go_wp2
  go_ret
  exact ⟨rfl, rfl⟩

theorem tz64 (w : World) (hd : w.cell? ⟨5, 15, none⟩ = some (.int .u8 4)) : Calls Tryz.prog 203 #[.int .u64 16] w fun e w' => e = .returned (.int .i64 4) ∧ w = w' := by
  have hb : bits BinOp.and IntKind.u64 16 (IntKind.u64.wrap (-16)) = 16 := by decide +kernel
  have hm : IntKind.u64.wrap (16 * 285870213051353865) / 288230376151711744 = 15 := by decide +kernel
  go_enter Tryz.func203, Tryz.ntmps203
  go_wp2
  go_ret
  exact ⟨rfl, rfl⟩

theorem tz (w : World) (hd : w.cell? ⟨5, 15, none⟩ = some (.int .u8 4)) : Calls Tryz.prog 190 #[.int .u64 16] w fun e w' => e = .returned (.int .i64 4) ∧ w = w' := by
  go_enter Tryz.func190, Tryz.ntmps190
  go_wp2_with (go_at_call 203; refine (tz64 _ hd).mono ?_; rintro e w' ⟨rfl, rfl⟩)
  go_ret
  exact ⟨rfl, rfl⟩

end Go.Proofs.YthnhbcohfoodlaaGreatDoor

/- Numbers in base 16: the walks of strconv.FormatInt(n, 16) and of scriptref3.Hex. -/
namespace Go.Proofs.YthnhbcohfoodlaaGreatDoor
open Go.RowKit

/-- A digit's byte. -/
def hexd (d : Nat) : UInt8 := if d < 10 then UInt8.ofNat (48 + d) else UInt8.ofNat (87 + d)
/-- A number's digits in base 16. -/
def hexL (n : Nat) : List UInt8 := if n < 16 then [hexd n] else hexL (n / 16) ++ [hexd (n % 16)]
termination_by n
decreasing_by omega

theorem hexL_small {n : Nat} (h : n < 16) : hexL n = [hexd n] := by rw [hexL, if_pos h]
theorem hexL_big {n : Nat} (h : 16 ≤ n) : hexL n = hexL (n / 16) ++ [hexd (n % 16)] := by rw [hexL, if_neg (by omega)]
theorem hexL_length (d n : Nat) (h : n < 16 ^ (d + 1)) : (hexL n).length ≤ d + 1 := by
  induction d generalizing n with
  | zero => rw [hexL_small (by simpa using h)]; simp
  | succ d ih =>
    by_cases h1 : n < 16
    · rw [hexL_small h1]; simp
    · rw [hexL_big (by omega), List.length_append]
      have := ih (n / 16) (by rw [Nat.pow_succ] at h; omega)
      simp; omega

theorem drop_put {cs : Array Value} {q : Nat} {l : List Value} {v : Value} (h : cs.toList.drop (q + 1) = l) (hq : q < cs.size) : (cs.setIfInBounds q v).toList.drop q = v :: l := by
  rw [Array.toList_setIfInBounds, List.drop_eq_getElem_cons (by simpa using hq), List.getElem_set_self, List.drop_set_of_lt (by omega), h]

def FbRel (w : World) (n : Nat) (i u : Value) (wr : World) : Prop :=
  ∃ (p rem d : Nat) (acc : List UInt8) (cs : Array Value), i = .int .i64 p ∧ u = .int .u64 rem ∧ p + acc.length = 65 ∧ acc.length + d + 1 = 6 ∧ rem < 16 ^ (d + 1) ∧ hexL n = hexL rem ++ acc ∧
    Blk wr w.heap.size 223 cs ∧ cs.size = 65 ∧ cs.toList.drop p = Lib.byteCells acc ∧ Below w.heap.size w wr

theorem and15 (rem : Nat) (h : rem < 16777216) : bits BinOp.and IntKind.u64 (rem : Int) 15 = ((rem % 16 : Nat) : Int) := by
  have h := bits_mask .u64 63 (by decide) (fun n h0 h1 => by rw [show (2 : Int) ^ 63 = 9223372036854775808 by decide] at h1; rw [IntKind.wrap_u64]; omega) 4 (by decide) (rem : Int) (by omega) (by rw [show (2 : Int) ^ 63 = 9223372036854775808 by decide]; omega)
  rw [show ((2 : Int) ^ 4 - 1) = 15 by decide] at h
  rw [h]
  omega

def digits : ByteArray := ⟨#[48, 49, 50, 51, 52, 53, 54, 55, 56, 57, 97, 98, 99, 100, 101, 102, 103, 104, 105, 106, 107, 108, 109, 110, 111, 112, 113, 114, 115, 116, 117, 118, 119, 120, 121, 122]⟩
theorem dig_all : ∀ i : Fin 16, digits[i.val]'(Nat.lt_trans i.2 (by decide)) = hexd i.val := by decide
theorem dig (k : Nat) (hk : k < 16) (h : k < digits.size) : digits[k]'h = hexd k := dig_all ⟨k, hk⟩

theorem zero65 (w : World) : (zeroValue 223).run Tryz.prog w = .ok (.agg (Array.replicate 65 (.int .u8 0))) w := by kernel_rfl

theorem slice65 (g q : Nat) (hq : q < 65) (w : World) : (Instr.sliceAt 223 (.pointer (some ⟨g, 0, none⟩)) (some (.int .i64 q)) none none).run Tryz.prog w = .ok (.slice (some ⟨g, q, none⟩) (65 - q) (65 - q)) w := by
  have h1 : Tryz.prog.arrayLen 223 = 65 := by kernel_rfl
  have h2 : Tryz.prog.elem 223 = 5 := by kernel_rfl
  have h3 : ∀ w, (sizeOf 5).run Tryz.prog w = .ok 1 w := fun w => by kernel_rfl
  rw [run_sliceAt_array_l w _ _ (by rw [h1, h2]; exact Tryz.underlying223) .i64 q (by omega) (by rw [h1]; omega), h1, h2, h3]
  simp only [Result.andThen, slicedAt, Int.toNat_natCast, Nat.mul_one]
  rw [if_neg (by omega)]
  simp [Addr.add]
  intro h
  exact h.symm

theorem back65 (w : World) (g q : Nat) (l : List UInt8) (hl : l.length = 65 - q) (cs : Array Value) (hb : Blk w g 223 cs) (hd : cs.toList.drop q = Lib.byteCells l) : (convert 76 9 (.slice (some ⟨g, q, none⟩) (65 - q) (65 - q))).run Tryz.prog w = .ok (.string ⟨l.toArray⟩) w := by
  rw [← hl]
  refine run_convert_bytes_back w 76 9 5 ⟨g, q, none⟩ _ l Tryz.underlying76 Tryz.underlying5 Tryz.underlying9 (fun j hj => ?_)
  have e : (⟨g, q, none⟩ : Addr).add j = ⟨g, q + j, none⟩ := by simp [Addr.add]
  rw [e, hb.cell, ← Array.getElem?_toList, ← List.getElem?_drop, hd]
  simp [Lib.byteCells, List.getElem?_eq_getElem hj]

set_option maxRecDepth 100000 in
set_option maxHeartbeats 1600000 in
theorem format_bits (n : Nat) (hn : n < 16777216) (w : World) (hd : w.cell? ⟨5, 15, none⟩ = some (.int .u8 4)) :
    Calls Tryz.prog 167 #[.slice none 0 0, .int .u64 n, .int .i64 16, .bool false, .bool false] w fun e w' => e = .returned (.tuple #[.slice none 0 0, .string ⟨(hexL n).toArray⟩]) ∧ Below w.heap.size w w' := by
  obtain ⟨Z, hZ, hZs⟩ : ∃ Z, Z = Array.replicate 65 (Value.int .u8 0) ∧ Z.size = 65 := ⟨_, rfl, by simp⟩
  have hz65 : ∀ w, (zeroValue 223).run Tryz.prog w = .ok (.agg Z) w := fun w => by rw [hZ]; exact zero65 w
  have HZ := Lib.hid hZs
  clear hZ hZs
  have hlt : 5 < w.heap.size := by
    rcases Nat.lt_or_ge 5 w.heap.size with h | h
    · exact h
    · exfalso
      unfold World.cell? at hd
      simp [Array.getElem?_eq_none h] at hd
  have hd2 : (w.alloc (.cells Z 223)).cell? ⟨5, 15, none⟩ = some (.int .u8 4) := (((Below.refl w.heap.size w).alloc (Nat.le_refl _) _).cell hlt).trans hd
  go_enter Tryz.func167, Tryz.ntmps167
  go_wp2_with (first | (go_at_call 189; refine (is_pow _).mono ?_; rintro e w' ⟨rfl, rfl⟩) | (go_at_call 190; refine (tz _ hd2).mono ?_; rintro e w' ⟨rfl, rfl⟩))
  go_loopw [13, 1] (FbRel w n) (fun _ u _ => (intOf u).toNat)
  case atStart => exact ⟨65, n, 5, [], Z, rfl, rfl, rfl, rfl, by simpa using hn, by rw [List.append_nil], Blk.new _ _ _, HZ.out, by rw [List.drop_of_length_le (by rw [Array.length_toList, HZ.out]; exact Nat.le_refl _)]; rfl, (Below.refl _ _).alloc (Nat.le_refl _) _⟩
  case round =>
    obtain ⟨p, rem, d, acc, cs, rfl, rfl, hp, hdd, hrem, hhex, hblk, hcs, hdrop, hb⟩ := hrel
    have hz := hb.size
    obtain ⟨q, rfl⟩ : ∃ q, p = q + 1 := ⟨p - 1, by omega⟩
    have hlow : rem < 16777216 := Nat.lt_of_lt_of_le hrem (by have : 16 ^ (d + 1) ≤ 16 ^ 6 := Nat.pow_le_pow_right (by omega) (by omega); simpa using this)
    by_cases h16 : 16 ≤ rem
    · have ha := and15 rem (by omega)
      have c0 : wr.cell? ⟨w.heap.size, q, none⟩ = some cs[q] := by rw [hblk.cell, Array.getElem?_eq_getElem]
      have f0 := hblk.frozen q
      have hqw : IntKind.i64.wrap (q : Int) = (q : Int) := IntWalk.i64_in _ (by omega)
      have HH := Lib.hid hhex
      have HR := Lib.hid hrem
      have HB := Lib.hid hblk
      have HD := Lib.hid hdrop
      clear hhex hrem hblk hdrop
      go_wp2_with fail
      have he := dig (rem % 16) (by omega) (by show _ < 36; omega)
      unfold digits at he
      rw [he]
      obtain ⟨d, rfl⟩ : ∃ e, d = e + 1 := by
        rcases Nat.eq_zero_or_pos d with rfl | h
        · have := HR.out; simp at this; omega
        · exact ⟨d - 1, by omega⟩
      refine ⟨⟨q, rem / 16, d, hexd (rem % 16) :: acc, _, rfl, by simp, by simp; omega, by simp; omega, ?_, ?_, HB.out.put _ _, by simpa using hcs, ?_, hb.setCell (Nat.le_refl _) _⟩, ?_⟩
      · have := HR.out
        rw [Nat.pow_succ] at this
        omega
      · rw [HH.out, hexL_big h16, List.append_assoc]; rfl
      · exact drop_put HD.out (by omega)
      · simp only [intOf]; omega
    · have c0 : wr.cell? ⟨w.heap.size, q, none⟩ = some cs[q] := by rw [hblk.cell, Array.getElem?_eq_getElem]
      have f0 := hblk.frozen q
      have hqw : IntKind.i64.wrap (q : Int) = (q : Int) := IntWalk.i64_in _ (by omega)
      have HH := Lib.hid hhex
      have HB := Lib.hid hblk
      have HD := Lib.hid hdrop
      have h17 : rem < 16 := by omega
      clear hhex hrem hblk hdrop
      have he := dig rem h17 (by show _ < 36; omega)
      unfold digits at he
      have hsl := slice65 w.heap.size q (by omega)
      have hcv := back65 (wr.setCell ⟨w.heap.size, q, none⟩ (.int .u8 (hexd rem).toNat)) w.heap.size q (hexL n) (by rw [HH.out, hexL_small h17]; simp; omega) _ (HB.out.put q _) (by rw [drop_put HD.out (by omega), HH.out, hexL_small h17]; rfl)
      go_wp2_with fail
      go_ret2
      exact ⟨rfl, hb.setCell (Nat.le_refl _) _⟩

theorem format_int (n : Nat) (hn : n < 16777216) (w : World) (hd : w.cell? ⟨5, 15, none⟩ = some (.int .u8 4)) :
    Calls Tryz.prog 142 #[.int .i64 n, .int .i64 16] w fun e w' => e = .returned (.string ⟨(hexL n).toArray⟩) ∧ Below w.heap.size w w' := by
  have hw : IntKind.u64.wrap (n : Int) = (n : Int) := IntWalk.u64_in _ (by omega)
  have hneg : decide ((n : Int) < 0) = false := decide_eq_false (by omega)
  go_enter Tryz.func142, Tryz.ntmps142
  go_wp2_with fail
  refine (format_bits n hn _ hd).mono ?_
  rintro e w' ⟨rfl, hb⟩
  go_wp2_with fail
  go_ret
  exact ⟨rfl, hb⟩

theorem strconv_int (n : Nat) (hn : n < 16777216) (w : World) (hd : w.cell? ⟨5, 15, none⟩ = some (.int .u8 4)) :
    Calls Tryz.prog 88 #[.int .i64 n, .int .i64 16] w fun e w' => e = .returned (.string ⟨(hexL n).toArray⟩) ∧ Below w.heap.size w w' := by
  go_enter Tryz.func88, Tryz.ntmps88
  go_wp2_with fail
  refine (format_int n hn _ hd).mono ?_
  rintro e w' ⟨rfl, hb⟩
  go_wp2_with fail
  go_ret
  exact ⟨rfl, hb⟩

theorem ba_append (X Y : List UInt8) : (⟨X.toArray⟩ : ByteArray) ++ ⟨Y.toArray⟩ = ⟨(X ++ Y).toArray⟩ := by
  apply ByteArray.ext
  simp

end Go.Proofs.YthnhbcohfoodlaaGreatDoor

/- A rune as a set's text writes it: the walks of setsyn.Quote and of scriptref3.Quote: both tell quoteP. -/

namespace Go.Proofs.YthnhbcohfoodlaaGreatDoor
open Go.RowKit

def alnumB (r : Int) : Bool := decide ((48 ≤ r ∧ r ≤ 57) ∨ (65 ≤ r ∧ r ≤ 90) ∨ (97 ≤ r ∧ r ≤ 122))
/-- How a rune is written. -/
def quoteP (r : Int) : List UInt8 := if alnumB r = true ∨ (126 < r ∧ rightB r = true) then Lib.encodeRune r else [92, 117, 123] ++ hexL r.toNat ++ [125]

theorem enc_eq (r : Int) (hr : rightB r = true) : Utf8.encode r = ⟨(Lib.encodeRune r).toArray⟩ := by
  have h0 := (right_range hr).1
  have hv : Utf8.valid r = true := by
    simp [rightB] at hr
    simp [Utf8.valid]
    omega
  obtain ⟨n, rfl⟩ : ∃ n : Nat, r = n := ⟨r.toNat, by omega⟩
  unfold Utf8.encode
  simp only [hv, if_true, Int.toNat_natCast]
  simp [rightB] at hr
  apply ByteArray.ext
  by_cases h1 : n < 128
  · rw [if_pos h1, Lib.encodeRune, Lib.encodeRuneZ_one (by omega) (by omega)]
    simp
  by_cases h2 : n < 2048
  · rw [if_neg h1, if_pos h2, Lib.encodeRune, Lib.encodeRuneZ_two (by omega) (by omega)]
    simp only [List.map_cons, List.map_nil, Nat.toUInt8_eq]
    rw [show (192 + (n : Int) / 64).toNat = 192 + n / 64 by omega, show (128 + (n : Int) % 64).toNat = 128 + n % 64 by omega]
  by_cases h3 : n < 65536
  · rw [if_neg h1, if_neg h2, if_pos h3, Lib.encodeRune, Lib.encodeRuneZ_three (by omega)]
    simp only [List.map_cons, List.map_nil, Nat.toUInt8_eq]
    rw [show (224 + (n : Int) / 4096).toNat = 224 + n / 4096 by omega, show (128 + (n : Int) / 64 % 64).toNat = 128 + n / 64 % 64 by omega, show (128 + (n : Int) % 64).toNat = 128 + n % 64 by omega]
  · rw [if_neg h1, if_neg h2, if_neg h3, Lib.encodeRune, Lib.encodeRuneZ_four (by omega) (by omega)]
    simp only [List.map_cons, List.map_nil, Nat.toUInt8_eq]
    rw [show (240 + (n : Int) / 262144).toNat = 240 + n / 262144 by omega, show (128 + (n : Int) / 4096 % 64).toNat = 128 + n / 4096 % 64 by omega, show (128 + (n : Int) / 64 % 64).toNat = 128 + n / 64 % 64 by omega, show (128 + (n : Int) % 64).toNat = 128 + n % 64 by omega]

theorem alnum_right {r : Int} (h : alnumB r = true) : rightB r = true := by
  simp [alnumB] at h
  simp [rightB]
  omega

theorem quote_len (r : Int) (h0 : 0 ≤ r) (h1 : r ≤ 1114111) : (quoteP r).length ≤ 10 := by
  unfold quoteP
  split
  · have : (Lib.encodeRune r).length ≤ 4 := by rw [← Lib.runeCells_length]; exact (Lib.runeCells_le r).2
    omega
  · have := hexL_length 5 r.toNat (by omega)
    simp; omega

theorem quote_not {r : Int} (h : ¬(alnumB r = true ∨ (126 < r ∧ rightB r = true))) : r < 48 ∨ (57 < r ∧ r < 65) ∨ (90 < r ∧ r < 97) ∨ (122 < r ∧ r ≤ 126) ∨ (126 < r ∧ rightB r = false) := by
  simp [alnumB] at h
  by_cases h126 : 126 < r
  · have := h.2 h126
    simp [h126, this]
  · omega

set_option maxRecDepth 100000 in
set_option maxHeartbeats 1600000 in
theorem setsyn_quote (r : Int) (h0 : 0 ≤ r) (h1 : r ≤ 1114111) (w : World) (hd : w.cell? ⟨5, 15, none⟩ = some (.int .u8 4)) :
    Calls Tryz.prog 47 #[.int .i32 r] w fun e w' => e = .returned (.string ⟨(quoteP r).toArray⟩) ∧ Below w.heap.size w w' := by
  by_cases hq : alnumB r = true ∨ (126 < r ∧ rightB r = true)
  · have hP : quoteP r = Lib.encodeRune r := if_pos hq
    rw [hP, ← enc_eq r (hq.elim alnum_right (·.2))]
    clear hP
    have hq2 : (48 ≤ r ∧ r ≤ 57) ∨ (65 ≤ r ∧ r ≤ 90) ∨ (97 ≤ r ∧ r ≤ 122) ∨ (126 < r ∧ rightB r = true) := by simpa [alnumB, or_assoc] using hq
    clear hq
    rcases hq2 with ⟨h2, h3⟩ | ⟨h2, h3⟩ | ⟨h2, h3⟩ | ⟨h2, h3⟩
    all_goals
      go_enter Tryz.func47, Tryz.ntmps47
      go_wp2_with (go_at_call 87; refine (runes_right _ _).mono ?_; rintro e w' ⟨rfl, rfl⟩)
      go_ret
      exact ⟨rfl, Below.refl _ _⟩
  · have hP : quoteP r = [92, 117, 123] ++ hexL r.toNat ++ [125] := if_neg hq
    have hq2 := quote_not hq
    rw [hP, ← ba_append, ← ba_append]
    clear hq hP
    obtain ⟨n, rfl⟩ : ∃ n : Nat, r = n := ⟨r.toNat, by omega⟩
    rw [Int.toNat_natCast]
    have hX := hexL_length 5 n (by omega)
    have hc : n < 16777216 := by omega
    have hR : rightB n = false → ∀ w, Calls Tryz.prog 87 #[.int .i32 n] w fun e w' => e = .returned (.bool false) ∧ w = w' := fun h w => by
      have := runes_right n w
      rwa [h] at this
    rcases hq2 with h2 | ⟨h2, h3⟩ | ⟨h2, h3⟩ | ⟨h2, h3⟩ | ⟨h2, h3⟩
    all_goals
      first
        | (have H3 := Lib.hid (hR h3); clear h3)
        | skip
      clear hR
      go_enter Tryz.func47, Tryz.ntmps47
      go_wp2_with (go_at_call 87; refine (H3.out _).mono ?_; rintro e w' ⟨rfl, rfl⟩)
      refine (strconv_int n hc _ hd).mono ?_
      rintro e w' ⟨rfl, hb⟩
      go_wp2_with fail
      go_ret
      exact ⟨rfl, hb⟩

end Go.Proofs.YthnhbcohfoodlaaGreatDoor

/- A strings.Builder that the call itself has made: copyCheck and WriteRune, walked over this translation (in which copyCheck's own panic is an operation without a meaning, so the shelf's contract does not fit it). After the shelf's texts on strings.Builder. -/
namespace Go.Proofs.YthnhbcohfoodlaaGreatDoor
open Go.RowKit Go.Shelf

/-- Block b is a builder that the call has made, and holds the bytes bs. -/
abbrev IsB (B b : Nat) (bs : List Value) (w : World) : Prop := Lib.IsBuilderF 78 5 B b bs w
abbrev AtB (B b : Nat) (bs : List Value) (w : World) : Prop := Lib.BuilderAtF 78 5 B b (.pointer (some ⟨b, 0, none⟩)) bs w
abbrev KeptB (b : Nat) (w w' : World) : Prop := Lib.OthersKept 5 (some b) w w'

theorem builder_size : (Tryz.prog.info? 78).map (·.size) = some 2 := by kernel_rfl
theorem builder_lies : liesAt Tryz.prog Tryz.prog.depth 78 (2 / Tryz.prog.cellsOf 78) 0 78 1 = true := by kernel_rfl

set_option maxRecDepth 100000 in
theorem copy_check_fresh (b : Nat) (w : World) (h0 : w.cell? ⟨b, 0, none⟩ = some (.pointer none)) (hsh : w.shape? b = some (78, 2)) (hfz : w.frozen? ⟨b, 0, none⟩ = false) :
    Calls Tryz.prog 86 #[.pointer (some ⟨b, 0, none⟩)] w fun e w' => e = .returned (.tuple #[]) ∧ w' = w.setCell ⟨b, 0, none⟩ (.pointer (some ⟨b, 0, none⟩)) := by
  obtain ⟨j, hj, hjs⟩ := Option.map_eq_some_iff.1 builder_size
  have hne := Lib.run_neq_ptr_same (P := Tryz.prog) (w.setCell ⟨b, 0, none⟩ (.pointer (some ⟨b, 0, none⟩))) ⟨b, 0, none⟩ Tryz.underlying75 hj
  go_enter Tryz.func86, Tryz.ntmps86
  go_wp2_with fail
  rw [Lib.run_to_unsafe w ⟨b, 0, none⟩ Tryz.underlying75 Tryz.underlying175 hj (by rw [hjs]; decide) hsh (Nat.zero_lt_succ 1)]
  simp only [Result.andThen]
  rw [Oper.upon_value]
  go_wp2_with fail
  rw [run_callFunc_extern Tryz.func140 (by kernel_rfl) (by kernel_rfl) (by kernel_rfl) (e := Extern.AbiNoEscape.same) (by kernel_rfl)]
  rw [Lib.run_noEscape]
  simp only [Result.andThen]
  rw [Oper.upon_value]
  go_wp2_with fail
  rw [Lib.run_from_unsafe w ⟨b, 0, none⟩ Tryz.underlying175 Tryz.underlying75 hj hsh builder_lies]
  simp only [Result.andThen]
  rw [Oper.upon_value]
  go_wp2
  go_end0
  exact ⟨rfl, rfl⟩

theorem copy_check_used (b : Nat) (w : World) (h0 : w.cell? ⟨b, 0, none⟩ = some (.pointer (some ⟨b, 0, none⟩))) :
    Calls Tryz.prog 86 #[.pointer (some ⟨b, 0, none⟩)] w fun e w' => e = .returned (.tuple #[]) ∧ w' = w := by
  obtain ⟨j, hj, _⟩ := Option.map_eq_some_iff.1 builder_size
  have hne := Lib.run_neq_ptr_same (P := Tryz.prog) w ⟨b, 0, none⟩ Tryz.underlying75 hj
  go_enter Tryz.func86, Tryz.ntmps86
  go_wp2
  go_end0
  exact ⟨rfl, rfl⟩

theorem copy_check (B b : Nat) (bs : List Value) (w : World) (h : IsB B b bs w) :
    Calls Tryz.prog 86 #[.pointer (some ⟨b, 0, none⟩)] w fun e w' => e = .returned (.tuple #[]) ∧ AtB B b bs w' ∧ Below B w w' ∧ KeptB b w w' := by
  rcases h with h | h
  · refine (copy_check_fresh b w h.cell0 h.shape h.frozen0).mono ?_
    rintro e w' ⟨rfl, rfl⟩
    exact ⟨rfl, h.used _, (Below.refl B w).setCell (p := ⟨b, 0, none⟩) h.1 _, (Lib.OthersKept.refl _ _ w).setCell ⟨b, 0, none⟩ rfl _⟩
  · refine (copy_check_used b w h.cell0).mono ?_
    rintro e w' ⟨rfl, rfl⟩
    exact ⟨rfl, h, Below.refl B _, Lib.OthersKept.refl _ _ _⟩

theorem byteCells_append (a b : List UInt8) : Lib.byteCells (a ++ b) = Lib.byteCells a ++ Lib.byteCells b := by simp [Lib.byteCells]
theorem builder_new (w : World) (B : Nat) (hB : B ≤ w.heap.size) : IsB B w.heap.size [] (w.alloc (.cells #[.pointer none, .slice none 0 0] 78)) :=
  .inl ⟨hB, _, heap_alloc_new _ _, ⟨rfl, .inl ⟨rfl, rfl⟩⟩, by simp [Value.ownBlock]⟩

end Go.Proofs.YthnhbcohfoodlaaGreatDoor

/- WriteString and WriteByte on a strings.Builder that the call itself has made. After the shelf's texts. -/
namespace Go.Proofs.YthnhbcohfoodlaaGreatDoor
open Go.RowKit Go.Shelf

theorem infoByte : (Tryz.prog.info? 5).map (fun i => (i.zero, i.size, i.bytes)) = some (some (.int .u8 0), 1, 1) := by kernel_rfl

set_option maxHeartbeats 1000000 in
set_option maxRecDepth 100000 in
theorem write_string (B b : Nat) (bs : List Value) (s : ByteArray) (w : World) (h : IsB B b bs w) (hlen : bs.length + s.size ≤ 140737488355328) (hBw : B ≤ w.heap.size) :
    Calls Tryz.prog 46 #[.pointer (some ⟨b, 0, none⟩), .string s] w fun e w' => e = .returned (.tuple #[.int .i64 s.size, .nilIface]) ∧ AtB B b (bs ++ Lib.strCells s) w' ∧ Below B w w' ∧ KeptB b w w' := by
  obtain ⟨i0, hi, hz0, hz1, hz2⟩ := info_parts infoByte
  go_enter Tryz.func46, Tryz.ntmps46
  go_wp2_with fail
  refine (copy_check B b bs w h).mono ?_
  rintro e w1 ⟨rfl, h1, hb1, hk1⟩
  obtain ⟨hB, v, hbk, hown, hne⟩ := h1
  have c0 : w1.cell? ⟨b, 0, none⟩ = some (.pointer (some ⟨b, 0, none⟩)) := by rw [Lib.cell_of_heap hbk]; rfl
  have c1 : w1.cell? ⟨b, 1, none⟩ = some v := by rw [Lib.cell_of_heap hbk]; rfl
  go_wp2_with (at_builtin; refine Lib.wpList_append_own_stringF _ rfl _ _ 76 9 rfl B 5 i0 Tryz.underlying76 Tryz.underlying9 hi hz0 hz1 hz2 _ _ _ rfl hown s rfl ?c3 ?c4 ?c5 ?_)
  case c3 => unfold maxLen; omega
  case c4 => omega
  case c5 => have := hb1.size; omega
  intro v' w2 hown' hgrow _
  have hlt : b < w1.heap.size := by
    rcases Nat.lt_or_ge b w1.heap.size with h' | h'
    · exact h'
    · simp [Array.getElem?_eq_none h'] at hbk
  have hb2 : w2.heap[b]? = some (.cells #[.pointer (some ⟨b, 0, none⟩), v] 78 (0, 0)) := by
    rw [hgrow.block b hlt (fun e => hne e.symm)]
    exact hbk
  have d0 : w2.cell? ⟨b, 0, none⟩ = some (.pointer (some ⟨b, 0, none⟩)) := by rw [Lib.cell_of_heap hb2]; rfl
  have d1 : w2.cell? ⟨b, 1, none⟩ = some v := by rw [Lib.cell_of_heap hb2]; rfl
  have f1 : w2.frozen? ⟨b, 1, none⟩ = false := Lib.frozen_of_heap hb2 1
  obtain ⟨ao, n', cap, rfl⟩ : ∃ ao n' cap, v' = .slice ao n' cap := by
    rcases hown'.2 with ⟨hv, _⟩ | ⟨g, cap, cur, fz, hv, _⟩
    · exact ⟨_, _, _, hv⟩
    · exact ⟨_, _, _, hv⟩
  go_wp2
  go_ret2
  refine ⟨rfl, ?_, ?_, (hk1.grown hgrow (Lib.ownsRowF_kind hown)).setCell ⟨b, 1, none⟩ rfl _⟩
  · exact Lib.BuilderAtF.put (T := 78) (e := 5) hB hb2 (bs' := bs ++ Lib.strCells s) (by simpa [Lib.strCells_length] using hown') (by decide)
  · exact (hb1.grown hgrow (by have := hb1.size; omega) (fun k hk => (hown.lt k hk).1)).setCell (p := ⟨b, 1, none⟩) hB _

set_option maxHeartbeats 1000000 in
set_option maxRecDepth 100000 in
theorem write_byte (B b : Nat) (bs : List Value) (c : Int) (w : World) (h : IsB B b bs w) (hlen : bs.length + 1 ≤ 140737488355328) (hBw : B ≤ w.heap.size) :
    Calls Tryz.prog 45 #[.pointer (some ⟨b, 0, none⟩), .int .u8 c] w fun e w' => e = .returned .nilIface ∧ AtB B b (bs ++ [.int .u8 c]) w' ∧ Below B w w' := by
  obtain ⟨i0, hi, hz0, hz1, hz2⟩ := info_parts infoByte
  go_enter Tryz.func45, Tryz.ntmps45
  go_wp2_with fail
  refine (copy_check B b bs w h).mono ?_
  rintro e w1 ⟨rfl, h1, hb1, hk1⟩
  obtain ⟨hB, v, hbk, hown, hne⟩ := h1
  have c0 : w1.cell? ⟨b, 0, none⟩ = some (.pointer (some ⟨b, 0, none⟩)) := by rw [Lib.cell_of_heap hbk]; rfl
  have c1 : w1.cell? ⟨b, 1, none⟩ = some v := by rw [Lib.cell_of_heap hbk]; rfl
  go_wp2_with (at_builtin; refine wpList_append_ownF _ rfl _ _ 76 rfl B 5 i0 (.int .u8 0) 1 1 Tryz.underlying76 hi hz0 hz1 hz2 rfl (by decide) _ _ _ rfl (hown.alloc _) ⟨w1.heap.size, 0, none⟩ 1 1 [.int .u8 c] rfl rfl (cell_one_new _ _ _) (by intro u hu; simp at hu; subst hu; rfl) ?d3 ?d4 ?d5 ?_)
  case d3 => unfold maxLen; omega
  case d4 => omega
  case d5 => have := hb1.size; simp; omega
  intro v' w2 hown' hgrow _
  have hlt : b < w1.heap.size := by
    rcases Nat.lt_or_ge b w1.heap.size with h' | h'
    · exact h'
    · simp [Array.getElem?_eq_none h'] at hbk
  have hb2 : w2.heap[b]? = some (.cells #[.pointer (some ⟨b, 0, none⟩), v] 78 (0, 0)) := by
    rw [hgrow.block b (by simp; omega) (fun e => hne e.symm), Lib.alloc_old w1 _ b hlt]
    exact hbk
  have d0 : w2.cell? ⟨b, 0, none⟩ = some (.pointer (some ⟨b, 0, none⟩)) := by rw [Lib.cell_of_heap hb2]; rfl
  have d1 : w2.cell? ⟨b, 1, none⟩ = some v := by rw [Lib.cell_of_heap hb2]; rfl
  have f1 : w2.frozen? ⟨b, 1, none⟩ = false := Lib.frozen_of_heap hb2 1
  obtain ⟨ao, n', cap, rfl⟩ : ∃ ao n' cap, v' = .slice ao n' cap := by
    rcases hown'.2 with ⟨hv, _⟩ | ⟨g, cap, cur, fz, hv, _⟩
    · exact ⟨_, _, _, hv⟩
    · exact ⟨_, _, _, hv⟩
  go_wp2
  go_ret
  refine ⟨rfl, ?_, ?_⟩
  · exact Lib.BuilderAtF.put (T := 78) (e := 5) hB hb2 (bs' := bs ++ [.int .u8 c]) (by simpa using hown') (by decide)
  · exact ((hb1.alloc (by have := hb1.size; omega) _).grown hgrow (by have := hb1.size; simp; omega) (fun k hk => (hown.lt k hk).1)).setCell (p := ⟨b, 1, none⟩) hB _

end Go.Proofs.YthnhbcohfoodlaaGreatDoor

/- Sets as text: the walks of setsyn.Print and of scriptref3.Print: both tell printP. -/
namespace Go.Proofs.YthnhbcohfoodlaaGreatDoor
open Go.RowKit Go.Shelf

def spanW (k : Int × Int) : List UInt8 := quoteP k.1 ++ (if k.1 < k.2 then 45 :: quoteP k.2 else [])
def printL (l : Spans) : List UInt8 := l.flatMap spanW
/-- What Print answers. -/
def printP (l : Spans) : ByteArray × Int := if wrongP l = 0 then (⟨([91] ++ printL l ++ [93]).toArray⟩, 0) else (⟨#[]⟩, wrongP l)

theorem wrongGo_ok (l : Spans) : ∀ prev, wrongGo prev l = 0 → ∀ k ∈ l, 0 ≤ k.1 ∧ k.1 ≤ k.2 ∧ k.2 ≤ 1114111 := by
  induction l with
  | nil => simp
  | cons z l ih =>
    intro prev h k hk
    obtain ⟨a, b⟩ := z
    rw [wrongGo] at h
    by_cases h1 : a < 0 ∨ 1114111 < b ∨ b < a
    · rw [if_pos h1] at h; cases h
    rw [if_neg h1] at h
    by_cases h2 : touch prev a = true
    · rw [if_pos h2] at h; cases h
    rw [if_neg h2] at h
    rcases List.mem_cons.1 hk with rfl | hk
    · simp only; omega
    · exact ih _ h k hk
theorem wrongP_ok {l : Spans} (h : wrongP l = 0) : l.length ≤ 200 ∧ ∀ k ∈ l, 0 ≤ k.1 ∧ k.1 ≤ k.2 ∧ k.2 ≤ 1114111 := by
  unfold wrongP at h
  by_cases h1 : 200 < l.length
  · rw [if_pos h1] at h; cases h
  · rw [if_neg h1] at h
    exact ⟨by omega, wrongGo_ok l none h⟩

theorem spanW_len (k : Int × Int) (h : 0 ≤ k.1 ∧ k.1 ≤ k.2 ∧ k.2 ≤ 1114111) : (spanW k).length ≤ 21 := by
  have h1 := quote_len k.1 (by omega) (by omega)
  have h2 := quote_len k.2 (by omega) (by omega)
  unfold spanW
  rw [List.length_append]
  split
  · rw [List.length_cons]; omega
  · rw [List.length_nil]; omega
theorem print_len (l : Spans) (h : ∀ k ∈ l, 0 ≤ k.1 ∧ k.1 ≤ k.2 ∧ k.2 ≤ 1114111) : (printL l).length ≤ 21 * l.length := by
  induction l with
  | nil => simp [printL]
  | cons z l ih =>
    have h1 := spanW_len z (h z (by simp))
    have h2 := ih (fun k hk => h k (by simp [hk]))
    simp only [printL, List.flatMap_cons, List.length_append, List.length_cons] at h2 ⊢
    omega
theorem print_succ (l : Spans) (k : Nat) (z : Int × Int) (h : l[k]? = some z) : printL (l.take (k + 1)) = printL (l.take k) ++ spanW z := by
  obtain ⟨hk, rfl⟩ := List.getElem?_eq_some_iff.1 h
  rw [List.take_succ_eq_append_getElem hk]
  simp only [printL, List.flatMap_append, List.flatMap_cons, List.flatMap_nil, List.append_nil]

theorem byteCells_len (a : List UInt8) : (Lib.byteCells a).length = a.length := by simp [Lib.byteCells]
theorem strCells_of (L : List UInt8) : Lib.strCells ⟨L.toArray⟩ = Lib.byteCells L := by simp [Lib.strCells, Lib.byteCells]
theorem size_of (L : List UInt8) : (⟨L.toArray⟩ : ByteArray).size = L.length := by simp [ByteArray.size]
theorem at_below {B b : Nat} {bs : List Value} {W W' : World} (h : AtB B b bs W) (hb : Below W.heap.size W W') : AtB B b bs W' := by
  have hlt := h.lt
  obtain ⟨hB, v, hv, hown, hne⟩ := h
  exact ⟨hB, v, (hb.block b hlt).trans hv, hown.kept (row := none) ⟨hb.os, hb.tape, hb.output, hb.size, fun k hk _ => hb.block k hk⟩ (Classical.em _), hne⟩

def PrRel (w : World) (b : Nat) (l : Spans) (n : Nat) (i : Value) (wr : World) : Prop :=
  ∃ k : Nat, k ≤ n ∧ i = .int .i64 k ∧ AtB w.heap.size b (Lib.byteCells ([91] ++ printL (l.take k))) wr ∧ Below w.heap.size w wr

set_option maxRecDepth 100000 in
set_option maxHeartbeats 1600000 in
theorem setsyn_print (A : Option Addr) (n c : Nat) (l : Spans) (w : World) (hn : n ≤ 9223372036854775807) (hl : RdS w w.heap.size A n l) (hd : w.cell? ⟨5, 15, none⟩ = some (.int .u8 4)) (hlt : 5 < w.heap.size) :
    Calls Tryz.prog 15 #[.slice A n c] w fun e w' => e = .returned (.tuple #[.string (printP l).1, .int .i64 (printP l).2]) ∧ Below w.heap.size w w' := by
  have HLEN := Lib.hid hl.len
  have HL := Lib.hid hl
  clear hl
  have HD := Lib.hid hd
  have HDL := Lib.hid hlt
  clear hd hlt
  by_cases hw0 : wrongP l = 0
  · obtain ⟨h200, hok⟩ := wrongP_ok hw0
    have hn2 : n ≤ 200 := by rw [← HLEN.out]; exact h200
    have HP := Lib.hid (show printP l = (⟨([91] ++ printL l ++ [93]).toArray⟩, 0) by unfold printP; rw [if_pos hw0])
    have HOK := Lib.hid hok
    have HW := Lib.hid hw0
    clear hok hw0
    go_enter Tryz.func15, Tryz.ntmps15
    go_wp2_with fail
    refine (sets_wrong A n c l w hn HL.out).mono ?_
    rintro e w1 ⟨rfl, hb1⟩
    rw [HW.out]
    have hz1 := hb1.size
    have HB0 := Lib.hid (builder_new w1 w.heap.size hz1)
    have HB1 := Lib.hid hb1
    go_wp2_with fail
    refine (write_byte w.heap.size w1.heap.size [] 91 _ HB0.out (by simp) (by simp; omega)).mono ?_
    rintro e w2 ⟨rfl, hB2, hb2⟩
    have hb02 := (HB1.out.alloc hz1 _).trans hb2
    clear hb1 hb2
    generalize w1.heap.size = b at *
    clear HB0 HB1 hz1
    go_wp2_with fail
    go_loopw [16] (PrRel w b l n) (fun i _ => n - (intOf i).toNat)
    case atStart => exact ⟨0, Nat.zero_le _, rfl, hB2, hb02⟩
    case round =>
      obtain ⟨k, hk, rfl, hB, hb⟩ := hrel
      have hz := hb.size
      have hpl := print_len (l.take k) (fun x hx => HOK.out x (List.mem_of_mem_take hx))
      have htk : (l.take k).length ≤ k := List.length_take_le _ _
      by_cases hkn : k < n
      · obtain ⟨⟨x, y⟩, hx⟩ : ∃ z, l[k]? = some z := ⟨_, List.getElem?_eq_getElem (by rw [HLEN.out]; exact hkn)⟩
        have hok := HOK.out (x, y) (List.mem_of_getElem? hx)
        dsimp only at hok
        obtain ⟨ho1, ho2, ho3⟩ := hok
        obtain ⟨b2, off, rfl, hbb, c0, c1⟩ := HL.out.at hx
        have d0 := (hb.cell (p := ⟨b2, off + k * 2, none⟩) hbb).trans c0
        have d1 := (hb.cell (p := ⟨b2, off + k * 2 + 1, none⟩) hbb).trans c1
        have hsucc := print_succ l k _ hx
        have hblt := hB.lt
        have hq1 := quote_len x (by omega) (by omega)
        have hq2 := quote_len y (by omega) (by omega)
        have HS := Lib.hid hsucc
        have HX := Lib.hid hx
        have HB := Lib.hid hB
        clear hsucc hx hB c0 c1
        have hb3 := hb.alloc hz (.cells #[.int .i32 x, .int .i32 y] 74)
        have hd3 := (hb3.cell HDL.out).trans HD.out
        have HB3 := Lib.hid (HB.out.alloc (.cells #[.int .i32 x, .int .i32 y] 74))
        have HK3 := Lib.hid (Blk.new wr 74 #[.int .i32 x, .int .i32 y])
        have HD3 := Lib.hid hd3
        clear hd3
        go_wp2_with fail
        refine (setsyn_quote x (by omega) (by omega) _ HD3.out).mono ?_
        rintro e w4 ⟨rfl, hb4⟩
        have HB4 := Lib.hid (at_below HB3.out hb4)
        have HK4 := Lib.hid (Blk.below HK3.out hb4 HK3.out.lt)
        have hb4' := hb3.trans (hb4.mono (by simp; omega))
        have hz4 := hb4'.size
        clear hb4
        go_wp2_with fail
        refine (write_string w.heap.size b _ _ _ (.inr HB4.out) (by rw [byteCells_len, size_of]; simp; omega) hz4).mono ?_
        rintro e w5 ⟨rfl, hB5, hb5, hk5⟩
        have hb5' := hb4'.trans hb5
        have hz5 := hb5'.size
        have hK5 : Blk w5 wr.heap.size 74 #[.int .i32 x, .int .i32 y] := hk5 _ _ HK4.out (by simp; omega) (by intro c fz h; injection h with _ h2; exact absurd h2 (by decide))
        have e0 : w5.cell? ⟨wr.heap.size, 0, none⟩ = some (.int .i32 x) := hK5.cell 0
        have e1 : w5.cell? ⟨wr.heap.size, 1, none⟩ = some (.int .i32 y) := hK5.cell 1
        rw [strCells_of, ← byteCells_append] at hB5
        have HB5 := Lib.hid hB5
        clear hB5 hb5 hk5
        have hd5 := (hb5'.cell HDL.out).trans HD.out
        by_cases hxy : x < y
        · have hK5' := Lib.hid hK5
          clear hK5
          go_wp2_with fail
          refine (setsyn_quote y (by omega) (by omega) _ hd5).mono ?_
          rintro e w6 ⟨rfl, hb6⟩
          have HB6 := Lib.hid (at_below HB5.out hb6)
          have hb6' := hb5'.trans (hb6.mono hz5)
          have hz6 := hb6'.size
          clear hb6
          go_wp2_with fail
          rw [show (⟨#[45]⟩ : ByteArray) ++ ⟨(quoteP y).toArray⟩ = ⟨(45 :: quoteP y).toArray⟩ from ba_append [45] _]
          refine (write_string w.heap.size b _ _ _ (.inr HB6.out) (by rw [byteCells_len, size_of]; simp; omega) hz6).mono ?_
          rintro e w7 ⟨rfl, hB7, hb7, _⟩
          rw [strCells_of, ← byteCells_append] at hB7
          have hb7' := hb6'.trans hb7
          go_wp2_with fail
          refine ⟨⟨k + 1, by omega, by go_num, ?_, hb7'⟩, by simp [intOf]; omega⟩
          rw [HS.out, spanW, if_pos hxy, ← List.append_assoc, ← List.append_assoc]
          exact hB7
        · go_wp2_with fail
          refine ⟨⟨k + 1, by omega, by go_num, ?_, hb5'⟩, by simp [intOf]; omega⟩
          have := HB5.out
          rw [HS.out, spanW, if_neg (show ¬ x < y by omega), List.append_nil, ← List.append_assoc]
          exact this
      · obtain rfl : k = n := by omega
        rw [List.take_of_length_le (by rw [HLEN.out]; omega)] at hB hpl
        have HB := Lib.hid hB
        clear hB
        have hll := HLEN.out
        go_wp2_with fail
        refine (write_byte w.heap.size b _ 93 _ (.inr HB.out) (by rw [byteCells_len]; simp; omega) hz).mono ?_
        rintro e w3 ⟨rfl, hB3, hb3⟩
        have hb3' := hb.trans hb3
        have hz3 := hb3'.size
        rw [show [Value.int .u8 93] = Lib.byteCells [93] from rfl, ← byteCells_append] at hB3
        have HB3 := Lib.hid hB3
        clear hB3
        go_wp2_with fail
        refine (Tryz.Builder_String_any_f w.heap.size b _ w3 (.inr HB3.out) hz3).mono ?_
        rintro e w4 ⟨rfl, _, hb4⟩
        go_wp2_with fail
        go_ret2
        rw [HP.out]
        exact ⟨rfl, hb3'.trans hb4⟩
  · have HP := Lib.hid (show printP l = (⟨#[]⟩, wrongP l) by unfold printP; rw [if_neg hw0])
    go_enter Tryz.func15, Tryz.ntmps15
    go_wp2_with fail
    refine (sets_wrong A n c l w hn HL.out).mono ?_
    rintro e w1 ⟨rfl, hb1⟩
    go_wp2_with fail
    go_ret2
    rw [HP.out]
    exact ⟨rfl, hb1⟩

end Go.Proofs.YthnhbcohfoodlaaGreatDoor

/- Runes as bytes, plain. -/
namespace Go.Proofs.YthnhbcohfoodlaaGreatDoor
open Go.RowKit

/-- Runes as bytes. -/
def bytesOf (l : List Int) : List UInt8 := l.flatMap Lib.encodeRune
theorem bytesOf_len (l : List Int) : (bytesOf l).length ≤ 4 * l.length := by
  induction l with
  | nil => simp [bytesOf]
  | cons a l ih =>
    have h1 : (Lib.encodeRune a).length ≤ 4 := by rw [← Lib.runeCells_length]; exact (Lib.runeCells_le a).2
    simp only [bytesOf, List.flatMap_cons, List.length_append, List.length_cons] at ih ⊢
    omega
/-- What Encode answers. -/
def encP (l : List Int) : ByteArray × Int := if l.all rightB then (⟨(bytesOf l).toArray⟩, 0) else (⟨#[]⟩, 3)

end Go.Proofs.YthnhbcohfoodlaaGreatDoor

/- The runes of any text are right. -/
namespace Go.Proofs.YthnhbcohfoodlaaGreatDoor

theorem decode_right_rune (s : ByteArray) (p : Nat) : rightB ((Utf8.decode s p).1 : Int) = true := by
  rw [Lib.decode_at]
  have key : ∀ n b0 b1 b2 b3, rightB ((Lib.decodeN n b0 b1 b2 b3).1 : Int) = true := by
    intro n b0 b1 b2 b3
    unfold Lib.decodeN
    repeat' split
    all_goals simp [rightB]
    all_goals omega
  exact key _ _ _ _ _

theorem runesOf_right (s : ByteArray) : ∀ (f p : Nat), s.size - p ≤ f → (runesOf s p).all rightB = true := by
  intro f
  induction f with
  | zero => intro p h; rw [runesOf_end s p (by omega)]; rfl
  | succ f ih =>
    intro p h
    by_cases hp : p < s.size
    · have hd := dec_bound s p hp
      rw [runesOf_step s p hp, List.all_cons, decode_right_rune s p, ih _ (by omega)]
      rfl
    · rw [runesOf_end s p hp]; rfl

theorem runesOf_valid (s : ByteArray) : ∀ x ∈ runesOf s 0, Utf8.valid x = true := by
  intro x hx
  have := List.all_eq_true.1 (runesOf_right s s.size 0 (by omega)) x hx
  rw [validRune_eq]
  unfold validRune
  simpa [rightB] using this

end Go.Proofs.YthnhbcohfoodlaaGreatDoor

/- What is encoded is decoded: right runes come back; a text of which no byte is spoilt comes back, and no other one. Plain facts; no program. -/
namespace Go.Proofs.YthnhbcohfoodlaaGreatDoor

theorem u8_toNat (z : Int) (_h0 : 0 ≤ z) (h1 : z < 256) : (z.toNat.toUInt8).toNat = z.toNat := by
  simp [Nat.toUInt8, UInt8.toNat_ofNat']
  omega

/-- One right rune alone. -/
theorem decode_one (r : Int) (h : rightB r = true) : Utf8.decode ⟨(Lib.encodeRune r).toArray⟩ 0 = (r.toNat, (Lib.encodeRune r).length) := by
  have hrr := right_range h
  simp [rightB] at h
  have key : Lib.decodeL (Lib.encodeRune r) = (r.toNat, (Lib.encodeRune r).length) := by
    rw [Lib.decodeL_N]
    unfold Lib.encodeRune
    by_cases h1 : r ≤ 127
    · rw [Lib.encodeRuneZ_one hrr.1 h1]
      simp only [List.map_cons, List.map_nil, List.length_cons, List.length_nil, List.getD_cons_zero]
      rw [u8_toNat r (by omega) (by omega)]
      unfold Lib.decodeN
      rw [if_pos (by omega)]
    by_cases h2 : r ≤ 2047
    · rw [Lib.encodeRuneZ_two (by omega) h2]
      simp only [List.map_cons, List.map_nil, List.length_cons, List.length_nil, List.getD_cons_zero, List.getD_cons_succ]
      rw [u8_toNat _ (by omega) (by omega), u8_toNat (128 + r % 64) (by omega) (by omega)]
      unfold Lib.decodeN
      rw [if_neg (by omega), if_pos (by omega), if_pos (by omega)]
      congr 1
      omega
    by_cases h3 : r ≤ 65535
    · rw [Lib.encodeRuneZ_three (by omega)]
      simp only [List.map_cons, List.map_nil, List.length_cons, List.length_nil, List.getD_cons_zero, List.getD_cons_succ]
      rw [u8_toNat _ (by omega) (by omega), u8_toNat (128 + r / 64 % 64) (by omega) (by omega), u8_toNat (128 + r % 64) (by omega) (by omega)]
      unfold Lib.decodeN
      rw [if_neg (by omega), if_neg (by omega), if_pos (by omega), if_pos (by omega)]
      congr 1
      omega
    · rw [Lib.encodeRuneZ_four (by omega) (by omega)]
      simp only [List.map_cons, List.map_nil, List.length_cons, List.length_nil, List.getD_cons_zero, List.getD_cons_succ]
      rw [u8_toNat _ (by omega) (by omega), u8_toNat (128 + r / 4096 % 64) (by omega) (by omega), u8_toNat (128 + r / 64 % 64) (by omega) (by omega), u8_toNat (128 + r % 64) (by omega) (by omega)]
      unfold Lib.decodeN
      rw [if_neg (by omega), if_neg (by omega), if_neg (by omega), if_pos (by omega), if_pos (by omega)]
      congr 1
      omega
  exact key

theorem enc_pos (r : Int) : 1 ≤ (Lib.encodeRune r).length := by
  rw [← Lib.runeCells_length]; exact (Lib.runeCells_le r).1
theorem mk_size (l : List UInt8) : (⟨l.toArray⟩ : ByteArray).size = l.length := by simp [ByteArray.size]

theorem one_rune (r : Int) (h : rightB r = true) : runesOf ⟨(Lib.encodeRune r).toArray⟩ 0 = [r] ∧ spoilt ⟨(Lib.encodeRune r).toArray⟩ 0 = 0 := by
  have hd := decode_one r h
  have hp := enc_pos r
  have hr := right_range h
  have hsz := mk_size (Lib.encodeRune r)
  rw [runesOf_step _ _ (by omega), spoilt_step _ _ (by omega)]
  unfold badAt
  rw [hd]
  dsimp only
  rw [runesOf_end _ _ (by omega), spoilt_end _ _ (by omega)]
  refine ⟨by rw [Int.toNat_of_nonneg hr.1], ?_⟩
  have : (r.toNat == 65533 && (Lib.encodeRune r).length == 1) = false := by
    by_cases hc : r = 65533
    · subst hc; decide +kernel
    · have : (r.toNat == 65533) = false := by rw [beq_eq_false_iff_ne]; omega
      rw [this]; rfl
  rw [this]
  rfl

theorem mk_append (a b : List UInt8) : (⟨(a ++ b).toArray⟩ : ByteArray) = ⟨a.toArray⟩ ++ ⟨b.toArray⟩ := by
  apply ByteArray.ext
  simp

/-- THE FIRST PLAIN LAW: right runes come back. -/
theorem turn_runes (l : List Int) (h : l.all rightB = true) : runesOf ⟨(bytesOf l).toArray⟩ 0 = l ∧ spoilt ⟨(bytesOf l).toArray⟩ 0 = 0 := by
  induction l with
  | nil => rw [runesOf_end _ _ (by simp [bytesOf, ByteArray.size]), spoilt_end _ _ (by simp [bytesOf, ByteArray.size])]; exact ⟨rfl, rfl⟩
  | cons r l ih =>
    simp only [List.all_cons, Bool.and_eq_true] at h
    obtain ⟨h1, h2⟩ := ih h.2
    obtain ⟨h3, h4⟩ := one_rune r h.1
    have e : bytesOf (r :: l) = Lib.encodeRune r ++ bytesOf l := by simp [bytesOf]
    rw [e, mk_append]
    obtain ⟨j1, j2⟩ := join_law ⟨(Lib.encodeRune r).toArray⟩ ⟨(bytesOf l).toArray⟩ _ 0 (Nat.le_refl _) (Nat.zero_le _) h4
    rw [j1, j2, h3, h1, h2]
    exact ⟨rfl, rfl⟩

theorem whole_bytes (s : ByteArray) : ∀ (f p : Nat), s.size - p ≤ f → p ≤ s.size → spoilt s p = 0 → bytesOf (runesOf s p) = s.data.toList.drop p := by
  have hlen : s.data.toList.length = s.size := by rw [Array.length_toList]; rfl
  intro f
  induction f with
  | zero =>
    intro p h hp _
    rw [runesOf_end s p (by omega), List.drop_of_length_le (by omega)]
    rfl
  | succ f ih =>
    intro p h hp h0
    by_cases hlt : p < s.size
    · have hd := dec_bound s p hlt
      rw [spoilt_step s p hlt] at h0
      have hb : badAt s p = false := by
        cases hb : badAt s p
        · rfl
        · rw [hb] at h0; simp at h0
      have hI := ih (p + (Utf8.decode s p).2) (by omega) (by omega) (by omega)
      have hdl := Lib.decodeL_drop s p
      have henc := Lib.encode_decode (s.data.toList.drop p) (by intro e; have := congrArg List.length e; simp at this; omega) (by
        rw [hdl]
        rintro ⟨h1, h2⟩
        unfold badAt at hb
        rw [h1, h2] at hb
        simp at hb)
      rw [hdl] at henc
      rw [runesOf_step s p hlt]
      have e : bytesOf (((Utf8.decode s p).1 : Int) :: runesOf s (p + (Utf8.decode s p).2)) = Lib.encodeRune ((Utf8.decode s p).1 : Int) ++ bytesOf (runesOf s (p + (Utf8.decode s p).2)) := by simp [bytesOf]
      rw [e, henc, hI, ← List.drop_drop, List.take_append_drop]
    · rw [runesOf_end s p hlt, List.drop_of_length_le (by omega)]
      rfl

/-- THE SECOND PLAIN LAW: a text comes back just where no byte is spoilt. -/
theorem turn_text (s : ByteArray) : encP (runesOf s 0) = (⟨(bytesOf (runesOf s 0)).toArray⟩, 0) ∧ ((⟨(bytesOf (runesOf s 0)).toArray⟩ : ByteArray) = s ↔ spoilt s 0 = 0) := by
  have hr := runesOf_right s s.size 0 (by omega)
  refine ⟨by unfold encP; rw [hr]; rfl, ⟨fun h => ?_, fun h => ?_⟩⟩
  · have := (turn_runes _ hr).2
    rw [h] at this
    exact this
  · rw [whole_bytes s s.size 0 (by omega) (by omega) h]
    simp

end Go.Proofs.YthnhbcohfoodlaaGreatDoor

/- What is written is read, plain: a right set's text is read as the set. -/
namespace Go.Proofs.YthnhbcohfoodlaaGreatDoor
open Go.RowKit

/-! ### The digits -/
def hexR (n : Nat) : List Int := (hexL n).map fun b => (b.toNat : Int)
theorem hexd_is (d : Nat) (h : d < 16) : hexB ((hexd d).toNat : Int) = true ∧ hexV ((hexd d).toNat : Int) = d := by
  have : d = 0 ∨ d = 1 ∨ d = 2 ∨ d = 3 ∨ d = 4 ∨ d = 5 ∨ d = 6 ∨ d = 7 ∨ d = 8 ∨ d = 9 ∨ d = 10 ∨ d = 11 ∨ d = 12 ∨ d = 13 ∨ d = 14 ∨ d = 15 := by omega
  rcases this with rfl | rfl | rfl | rfl | rfl | rfl | rfl | rfl | rfl | rfl | rfl | rfl | rfl | rfl | rfl | rfl <;> decide
theorem hexVal_app (l : List Int) (d : Int) : hexVal (l ++ [d]) = 16 * hexVal l + hexV d := by unfold hexVal; rw [List.foldl_append]; rfl
theorem hexR_is (k : Nat) : ∀ n, n < 16 ^ (k + 1) → (∀ d ∈ hexR n, hexB d = true) ∧ hexVal (hexR n) = n := by
  induction k with
  | zero =>
    intro n h
    have h16 : n < 16 := by simpa using h
    obtain ⟨h1, h2⟩ := hexd_is n h16
    unfold hexR
    rw [hexL_small h16]
    refine ⟨by simpa using h1, ?_⟩
    simp [hexVal, h2]
  | succ k ih =>
    intro n h
    by_cases h16 : n < 16
    · obtain ⟨h1, h2⟩ := hexd_is n h16
      unfold hexR
      rw [hexL_small h16]
      refine ⟨by simpa using h1, ?_⟩
      simp [hexVal, h2]
    · have hn : n / 16 < 16 ^ (k + 1) := by
        rw [Nat.pow_succ] at h
        omega
      obtain ⟨i1, i2⟩ := ih (n / 16) hn
      obtain ⟨h1, h2⟩ := hexd_is (n % 16) (Nat.mod_lt _ (by decide))
      have e : hexR n = hexR (n / 16) ++ [((hexd (n % 16)).toNat : Int)] := by unfold hexR; rw [hexL_big (by omega)]; simp
      rw [e, hexVal_app, i2, h2]
      refine ⟨fun d hd => ?_, by omega⟩
      rcases List.mem_append.1 hd with hd | hd
      · exact i1 d hd
      · rw [List.mem_singleton.1 hd]; exact h1
theorem hexL_pos (n : Nat) : 1 ≤ (hexL n).length := by
  rw [hexL]
  split
  · simp
  · simp
theorem hexR_len {n : Nat} (h : n < 16777216) : 1 ≤ (hexR n).length ∧ (hexR n).length ≤ 6 := by
  unfold hexR
  rw [List.length_map]
  exact ⟨hexL_pos n, hexL_length 5 n (by simpa using h)⟩

/-! ### Runes as they are written -/
def selfB (r : Int) : Bool := alnumB r || (decide (126 < r) && rightB r)
def quoteR (r : Int) : List Int := if selfB r = true then [r] else [92, 117, 123] ++ hexR r.toNat ++ [125]
def headOk (h : Int) : Prop := plainB h = true ∨ h = 92
theorem self_plain {r : Int} (h : selfB r = true) : plainB r = true := by
  have hr : (48 ≤ r ∧ r ≤ 57) ∨ (65 ≤ r ∧ r ≤ 90) ∨ (97 ≤ r ∧ r ≤ 122) ∨ 126 < r := by
    unfold selfB alnumB at h
    simp only [Bool.or_eq_true, Bool.and_eq_true, decide_eq_true_eq] at h
    omega
  unfold plainB blankB
  simp [specialL]
  omega
theorem quoteR_head (r : Int) : ∃ h t, quoteR r = h :: t ∧ headOk h := by
  unfold quoteR
  split
  · rename_i hs; exact ⟨r, [], rfl, .inl (self_plain hs)⟩
  · exact ⟨92, _, rfl, .inr rfl⟩
theorem headOk_ne {h : Int} (hh : headOk h) : h ≠ 91 ∧ h ≠ 38 ∧ h ≠ 45 ∧ h ≠ 93 ∧ h ≠ 94 ∧ blankB h = false ∧ h ≠ 58 := by
  rcases hh with hh | rfl
  · refine ⟨?_, ?_, ?_, ?_, ?_, ?_, ?_⟩
    all_goals first | (rintro rfl; exact absurd hh (by decide)) | skip
    unfold plainB at hh
    cases hb : blankB h
    · rfl
    · rw [hb] at hh; simp at hh
  · decide
theorem pk_app (pre m : List Int) (i : Nat) : pk (pre ++ m) (pre.length + i) = pk m i := by
  unfold pk
  rw [List.getElem?_append_right (by omega), show pre.length + i - pre.length = i by omega]
theorem pk_app0 (pre m : List Int) : pk (pre ++ m) pre.length = pk m 0 := pk_app pre m 0
theorem pk_cons0 (x : Int) (m : List Int) : pk (x :: m) 0 = x := rfl
theorem takeWhile_stop {p : Int → Bool} (h : List Int) (x : Int) (post : List Int) (h1 : ∀ d ∈ h, p d = true) (h2 : p x = false) : (h ++ x :: post).takeWhile p = h := by
  induction h with
  | nil => simp [h2]
  | cons a h ih =>
    rw [List.cons_append, List.takeWhile_cons, h1 a List.mem_cons_self]
    simp only [if_true]
    rw [ih (fun d hd => h1 d (List.mem_cons_of_mem _ hd))]
theorem hex_read (pre h post : List Int) (hh : ∀ d ∈ h, hexB d = true) (h1 : 1 ≤ h.length) (h6 : h.length ≤ 6) (hm : hexVal h ≤ 1114111) :
    hexP (pre ++ (117 :: 123 :: (h ++ 125 :: post))) pre.length = .ok (hexVal h, pre.length + 2 + h.length + 1) := by
  have e2 : pre ++ (117 :: 123 :: (h ++ 125 :: post)) = (pre ++ [117, 123]) ++ (h ++ 125 :: post) := by simp
  have hl : (pre ++ [117, 123]).length = pre.length + 2 := by simp
  have hd : (pre ++ (117 :: 123 :: (h ++ 125 :: post))).drop (pre.length + 2) = h ++ 125 :: post := by
    rw [e2, ← hl, List.drop_append_of_le_length (Nat.le_refl _), List.drop_length, List.nil_append]
  have hr : runFrom hexB (pre ++ (117 :: 123 :: (h ++ 125 :: post))) (pre.length + 2) = pre.length + 2 + h.length := by
    unfold runFrom
    rw [hd, takeWhile_stop h 125 post hh (by decide)]
  have ht : textAt (pre ++ (117 :: 123 :: (h ++ 125 :: post))) (pre.length + 2) (pre.length + 2 + h.length) = h := by
    rw [← hr, textAt_run, hd, takeWhile_stop h 125 post hh (by decide)]
  have n1 : needP (pre ++ (117 :: 123 :: (h ++ 125 :: post))) (pre.length + 1) 123 = .ok (pre.length + 2) := needP_at (by rw [pk_app]; rfl)
  have n2 : needP (pre ++ (117 :: 123 :: (h ++ 125 :: post))) (pre.length + 2 + h.length) 125 = .ok (pre.length + 2 + h.length + 1) := needP_at (by
    have e3 : pre ++ (117 :: 123 :: (h ++ 125 :: post)) = (pre ++ [117, 123] ++ h) ++ (125 :: post) := by simp
    have hl3 : (pre ++ [117, 123] ++ h).length = pre.length + 2 + h.length := by simp; omega
    rw [e3, ← hl3, pk_app0]
    rfl)
  unfold hexP
  rw [n1]
  simp only
  rw [hr, if_neg (by omega), n2]
  simp only
  rw [ht, if_neg (by omega)]
theorem char_read (pre post : List Int) (r : Int) (h0 : 0 ≤ r) (h1 : r ≤ 1114111) : charP (pre ++ (quoteR r ++ post)) pre.length = .ok (r, pre.length + (quoteR r).length) := by
  unfold quoteR
  split
  · rename_i hs
    unfold charP
    rw [pk_app0, List.singleton_append, pk_cons0, if_pos (self_plain hs)]
    rfl
  · obtain ⟨g1, g2⟩ := hexR_is 5 r.toNat (by have : r.toNat < 16777216 := by omega
                                             simpa using this)
    obtain ⟨g3, g4⟩ := hexR_len (n := r.toNat) (by omega)
    have e : pre ++ ([92, 117, 123] ++ hexR r.toNat ++ [125] ++ post) = (pre ++ [92]) ++ (117 :: 123 :: (hexR r.toNat ++ 125 :: post)) := by simp
    have hp0 : pk (pre ++ ([92, 117, 123] ++ hexR r.toNat ++ [125] ++ post)) pre.length = 92 := by rw [pk_app0]; rfl
    have hp1 : pk (pre ++ ([92, 117, 123] ++ hexR r.toNat ++ [125] ++ post)) (pre.length + 1) = 117 := by rw [pk_app]; rfl
    have hx := hex_read (pre ++ [92]) (hexR r.toNat) post g1 g3 g4 (by rw [g2]; omega)
    rw [← e, g2] at hx
    unfold charP
    rw [hp0, hp1, if_neg (by decide), if_neg (by decide), if_neg (by decide), if_neg (by decide), if_pos rfl]
    have hl : (pre ++ [92]).length = pre.length + 1 := by simp
    rw [hl] at hx
    rw [hx]
    congr 2
    · omega
    · simp; omega

/-! ### Spans -/
def spanR (k : Int × Int) : List Int := quoteR k.1 ++ (if k.1 < k.2 then 45 :: quoteR k.2 else [])
theorem spanR_head (k : Int × Int) : ∃ h t, spanR k = h :: t ∧ headOk h := by
  obtain ⟨h, t, e, hh⟩ := quoteR_head k.1
  exact ⟨h, _, by unfold spanR; rw [e]; rfl, hh⟩
theorem span_read (pre post : List Int) (k : Int × Int) (hk : 0 ≤ k.1 ∧ k.1 ≤ k.2 ∧ k.2 ≤ 1114111) (hp : pk post 0 ≠ 45) : spanP (pre ++ (spanR k ++ post)) pre.length = .ok (k, pre.length + (spanR k).length) := by
  obtain ⟨x, y⟩ := k
  simp only at hk
  unfold spanR
  by_cases hlt : x < y
  · simp only [hlt, if_true]
    have c1 := char_read pre ((45 :: quoteR y) ++ post) x (by omega) (by omega)
    have e : pre ++ (quoteR x ++ 45 :: quoteR y ++ post) = pre ++ (quoteR x ++ ((45 :: quoteR y) ++ post)) := by simp
    have e2 : pre ++ (quoteR x ++ ((45 :: quoteR y) ++ post)) = (pre ++ quoteR x ++ [45]) ++ (quoteR y ++ post) := by simp
    have e3 : pre ++ (quoteR x ++ ((45 :: quoteR y) ++ post)) = (pre ++ quoteR x) ++ (45 :: (quoteR y ++ post)) := by simp
    have c2 := char_read (pre ++ quoteR x ++ [45]) post y (by omega) (by omega)
    have l1 : (pre ++ quoteR x).length = pre.length + (quoteR x).length := by simp
    have l2 : (pre ++ quoteR x ++ [45]).length = pre.length + (quoteR x).length + 1 := by simp; omega
    have p1 : pk (pre ++ (quoteR x ++ ((45 :: quoteR y) ++ post))) (pre.length + (quoteR x).length) = 45 := by rw [e3, ← l1, pk_app0]; rfl
    have p2 : pk (pre ++ (quoteR x ++ ((45 :: quoteR y) ++ post))) (pre.length + (quoteR x).length + 1) ≠ 91 := by
      rw [e2, ← l2, pk_app0]
      obtain ⟨h, t, eq, hh⟩ := quoteR_head y
      rw [eq, List.cons_append, pk_cons0]
      exact (headOk_ne hh).1
    rw [e]
    unfold spanP
    rw [c1]
    simp only
    rw [if_pos ⟨p1, p2⟩]
    rw [← e2, l2] at c2
    rw [c2]
    simp only
    rw [if_neg (by omega)]
    congr 2
    simp
    omega
  · obtain rfl : x = y := by omega
    simp only [hlt, if_false, List.append_nil]
    have c1 := char_read pre post x (by omega) (by omega)
    have l1 : (pre ++ quoteR x).length = pre.length + (quoteR x).length := by simp
    have p1 : pk (pre ++ (quoteR x ++ post)) (pre.length + (quoteR x).length) ≠ 45 := by
      rw [← List.append_assoc, ← l1, pk_app0]
      exact hp
    unfold spanP
    rw [c1]
    simp only
    rw [if_neg (fun h => p1 h.1)]

/-! ### Sets -/
theorem skip_here {L : List Int} {i : Nat} (h : blankB (pk L i) = false) : skipP L i = i := runFrom_out (fun _ => h)
theorem op_snoc {cur : Spans} {x : Int × Int} (h : RightSet (cur ++ [x])) (hc : RightSet cur) (hx : RightSet [x]) : opP 124 cur [x] = (cur ++ [x], 0) := by
  rw [op_is (s := cur ++ [x]) (by decide) hc hx h.canon (fun r _ _ => by rw [hasP_append]; simp [doHolds]), if_neg (by have := h.size; omega)]
theorem right_app {a b : Spans} (h : RightSet (a ++ b)) : RightSet a ∧ RightSet b := by
  have hr := List.pairwise_append.1 h.rise
  have hs := h.size
  rw [List.length_append] at hs
  exact ⟨⟨by omega, fun x hx => h.each x (List.mem_append_left _ hx), hr.1⟩, ⟨by omega, fun x hx => h.each x (List.mem_append_right _ hx), hr.2.1⟩⟩
theorem parts_read (inner : Nat → Rdg Spans) (post : List Int) (l : Spans) : ∀ (pre : List Int) (f : Nat) (cur : Spans), l.length < f → RightSet (cur ++ l) →
    partsP inner (pre ++ (l.flatMap spanR ++ 93 :: post)) f pre.length cur = .ok (cur ++ l, pre.length + (l.flatMap spanR).length + 1) := by
  induction l with
  | nil =>
    intro pre f cur hf _
    obtain ⟨f, rfl⟩ : ∃ g, f = g + 1 := ⟨f - 1, by simp at hf; omega⟩
    have hp : pk (pre ++ (([] : Spans).flatMap spanR ++ 93 :: post)) pre.length = 93 := by rw [pk_app0]; rfl
    have hs : skipP (pre ++ (([] : Spans).flatMap spanR ++ 93 :: post)) pre.length = pre.length := skip_here (by rw [hp]; decide)
    rw [partsP_end (by rw [hs]; exact hp), hs]
    simp
  | cons k l ih =>
    intro pre f cur hf hr
    obtain ⟨f, rfl⟩ : ∃ g, f = g + 1 := ⟨f - 1, by simp at hf; omega⟩
    rw [List.length_cons] at hf
    obtain ⟨h, t, eq, hh⟩ := spanR_head k
    obtain ⟨n1, n2, n3, n4, n5, n6, n7⟩ := headOk_ne hh
    have e : pre ++ ((k :: l).flatMap spanR ++ 93 :: post) = pre ++ (spanR k ++ (l.flatMap spanR ++ 93 :: post)) := by rw [List.flatMap_cons, List.append_assoc]
    have hp : pk (pre ++ (spanR k ++ (l.flatMap spanR ++ 93 :: post))) pre.length = h := by rw [pk_app0, eq]; rfl
    have hs : skipP (pre ++ (spanR k ++ (l.flatMap spanR ++ 93 :: post))) pre.length = pre.length := skip_here (by rw [hp]; exact n6)
    have hpost : pk (l.flatMap spanR ++ 93 :: post) 0 ≠ 45 := by
      cases l with
      | nil => simp [pk]
      | cons k2 l =>
        obtain ⟨h2, t2, eq2, hh2⟩ := spanR_head k2
        rw [List.flatMap_cons, eq2]
        simp only [List.cons_append, pk_cons0]
        exact (headOk_ne hh2).2.2.1
    have hk := hr.each k (by simp)
    have hspan := span_read pre (l.flatMap spanR ++ 93 :: post) k hk hpost
    have hpart : partP' inner (pre ++ (spanR k ++ (l.flatMap spanR ++ 93 :: post))) pre.length = .ok ([k], pre.length + (spanR k).length) := by
      unfold partP'
      rw [if_neg (fun x => n1 (by rw [← hp]; exact x.1)), if_neg (by rw [hp]; exact n1), if_neg (by rw [hp]; omega), hspan]
    have hr2 : RightSet ((cur ++ [k]) ++ l) := by rw [List.append_assoc]; exact hr
    have hop : opOf (pk (pre ++ (spanR k ++ (l.flatMap spanR ++ 93 :: post))) pre.length) = 124 := by rw [hp]; unfold opOf; rw [if_neg (by omega)]
    have ho := op_snoc (right_app hr2).1 (right_app hr).1 (right_one hk)
    rw [e, partsP_step (j := pre.length + (spanR k).length) (s := [k]) (by rw [hs, hp]; exact n4) (by rw [hs]; exact hpart), hs, hop, ho]
    simp only [ne_eq, not_true_eq_false, if_false]
    have hi := ih (pre ++ spanR k) f (cur ++ [k]) (by omega) hr2
    rw [List.length_append, List.append_assoc, List.append_assoc] at hi
    rw [hi, List.flatMap_cons, List.length_append, List.singleton_append]
    congr 2
    omega
def printR (l : Spans) : List Int := 91 :: (l.flatMap spanR ++ [93])
theorem printR_length (l : Spans) : (printR l).length = (l.flatMap spanR).length + 2 := by
  unfold printR
  rw [List.length_cons, List.length_append]
  rfl
theorem set_read (pre post : List Int) (l : Spans) (lv : Nat) (hr : RightSet l) : setP' (pre ++ (printR l ++ post)) (lv + 1) pre.length = .ok (l, pre.length + (printR l).length) := by
  have e : pre ++ (printR l ++ post) = (pre ++ [91]) ++ (l.flatMap spanR ++ 93 :: post) := by simp [printR]
  have hn : needP (pre ++ (printR l ++ post)) pre.length 91 = .ok (pre.length + 1) := needP_at (by rw [pk_app0]; rfl)
  have hl : (pre ++ [91]).length = pre.length + 1 := by simp
  have h94 : pk (pre ++ (printR l ++ post)) (pre.length + 1) ≠ 94 := by
    rw [e, ← hl, pk_app0]
    cases l with
    | nil => simp [pk]
    | cons k2 l =>
      obtain ⟨h2, t2, eq2, hh2⟩ := spanR_head k2
      rw [List.flatMap_cons, eq2]
      simp only [List.cons_append, pk_cons0]
      exact (headOk_ne hh2).2.2.2.2.1
  have hlen : l.length < (pre ++ (printR l ++ post)).length + 1 := by
    have key : ∀ l : Spans, l.length ≤ (l.flatMap spanR).length := by
      intro l
      induction l with
      | nil => simp
      | cons k l ih =>
        obtain ⟨h2, t2, eq2, _⟩ := spanR_head k
        rw [List.flatMap_cons, List.length_append, eq2, List.length_cons, List.length_cons]
        omega
    have := key l
    rw [List.length_append, List.length_append, printR_length]
    omega
  have hp := parts_read (setP' (pre ++ (printR l ++ post)) lv) post l (pre ++ [91]) ((pre ++ (printR l ++ post)).length + 1) [] hlen (by simpa using hr)
  rw [← e, hl, List.nil_append] at hp
  rw [setP', hn]
  simp only
  rw [if_neg h94, hp]
  simp only
  rw [if_neg h94, printR_length]
  congr 2
  omega
theorem spanR_len (k : Int × Int) (hk : 0 ≤ k.1 ∧ k.1 ≤ k.2 ∧ k.2 ≤ 1114111) : (spanR k).length ≤ 21 := by
  have key : ∀ r : Int, 0 ≤ r → r ≤ 1114111 → (quoteR r).length ≤ 10 := by
    intro r h0 h1
    unfold quoteR
    split
    · simp
    · have := (hexR_len (n := r.toNat) (by omega)).2
      simp
      omega
  have h1 := key k.1 (by omega) (by omega)
  have h2 := key k.2 (by omega) (by omega)
  unfold spanR
  rw [List.length_append]
  split
  · rw [List.length_cons]; omega
  · simp; omega
theorem printR_len (l : Spans) (h : ∀ k ∈ l, 0 ≤ k.1 ∧ k.1 ≤ k.2 ∧ k.2 ≤ 1114111) : (printR l).length ≤ 21 * l.length + 2 := by
  have key : ∀ l : Spans, (∀ k ∈ l, 0 ≤ k.1 ∧ k.1 ≤ k.2 ∧ k.2 ≤ 1114111) → (l.flatMap spanR).length ≤ 21 * l.length := by
    intro l
    induction l with
    | nil => simp
    | cons k l ih =>
      intro h
      have h1 := spanR_len k (h k List.mem_cons_self)
      have h2 := ih (fun x hx => h x (List.mem_cons_of_mem _ hx))
      rw [List.flatMap_cons, List.length_append, List.length_cons]
      omega
  have := key l h
  rw [printR_length]
  omega
/-- What is written is read. -/
theorem print_read (l : Spans) (hr : RightSet l) (h150 : l.length ≤ 150) : readP (printR l) = (l, (0, 0)) := by
  have hl := printR_len l hr.each
  have h1 := set_read [] [] l 19 hr
  simp only [List.nil_append, List.append_nil, List.length_nil, Nat.zero_add] at h1
  have hs : skipP (printR l) 0 = 0 := skip_here (by simp [printR, pk_cons0]; decide)
  unfold readP
  rw [if_neg (by omega), hs, h1]
  simp only
  rw [if_neg (by have := skipP_ge (printR l) (printR l).length; omega)]

end Go.Proofs.YthnhbcohfoodlaaGreatDoor

/- The bytes of what is written are its runes' bytes. -/
namespace Go.Proofs.YthnhbcohfoodlaaGreatDoor
open Go.RowKit

theorem encode_lowR {r : Int} (h0 : 0 ≤ r) (h1 : r < 128) : Lib.encodeRune r = [r.toNat.toUInt8] := by
  unfold Lib.encodeRune
  rw [Lib.encodeRuneZ_one h0 (by omega)]
  rfl
theorem bytesOf_app (a b : List Int) : bytesOf (a ++ b) = bytesOf a ++ bytesOf b := by simp [bytesOf]
theorem bytesOf_low (l : List UInt8) (h : ∀ b ∈ l, b.toNat < 128) : bytesOf (l.map fun b => (b.toNat : Int)) = l := by
  induction l with
  | nil => rfl
  | cons b l ih =>
    have hb := h b List.mem_cons_self
    rw [List.map_cons]
    show bytesOf ([(b.toNat : Int)] ++ l.map fun b => (b.toNat : Int)) = b :: l
    rw [bytesOf_app, ih (fun x hx => h x (List.mem_cons_of_mem _ hx))]
    have : bytesOf [(b.toNat : Int)] = [b] := by
      simp only [bytesOf, List.flatMap_cons, List.flatMap_nil, List.append_nil]
      rw [encode_lowR (by omega) (by omega)]
      simp
    rw [this]
    rfl
theorem hexL_low (k : Nat) : ∀ n, n < 16 ^ (k + 1) → ∀ b ∈ hexL n, b.toNat < 128 := by
  have hd : ∀ d, d < 16 → (hexd d).toNat < 128 := by
    intro d h
    have := hex_ascii (l := [((hexd d).toNat : Int)]) (by simpa using (hexd_is d h).1) ((hexd d).toNat : Int) (by simp)
    omega
  induction k with
  | zero =>
    intro n h b hb
    have h16 : n < 16 := by simpa using h
    rw [hexL_small h16] at hb
    rw [List.mem_singleton.1 hb]
    exact hd n h16
  | succ k ih =>
    intro n h b hb
    by_cases h16 : n < 16
    · rw [hexL_small h16] at hb
      rw [List.mem_singleton.1 hb]
      exact hd n h16
    · rw [hexL_big (by omega)] at hb
      rcases List.mem_append.1 hb with hb | hb
      · exact ih (n / 16) (by rw [Nat.pow_succ] at h; omega) b hb
      · rw [List.mem_singleton.1 hb]; exact hd _ (Nat.mod_lt _ (by decide))
theorem self_iff (r : Int) : selfB r = true ↔ (alnumB r = true ∨ (126 < r ∧ rightB r = true)) := by
  unfold selfB
  simp only [Bool.or_eq_true, Bool.and_eq_true, decide_eq_true_eq]
theorem quote_bytes (r : Int) (h0 : 0 ≤ r) (h1 : r ≤ 1114111) : bytesOf (quoteR r) = quoteP r := by
  unfold quoteR quoteP
  by_cases hs : selfB r = true
  · rw [if_pos hs, if_pos ((self_iff r).1 hs)]
    simp [bytesOf]
  · rw [if_neg hs, if_neg (fun h => hs ((self_iff r).2 h))]
    have hr6 : r.toNat < 16 ^ (5 + 1) := by
      have : r.toNat < 16777216 := by omega
      simpa using this
    have hl := hexL_low 5 r.toNat hr6
    have e1 : ([92, 117, 123] : List Int) = ([92, 117, 123] : List UInt8).map fun b => (b.toNat : Int) := by decide
    have e2 : ([125] : List Int) = ([125] : List UInt8).map fun b => (b.toNat : Int) := by decide
    rw [bytesOf_app, bytesOf_app, e1, e2, hexR, bytesOf_low _ hl, bytesOf_low _ (by decide), bytesOf_low _ (by decide)]
theorem span_bytes (k : Int × Int) (hk : 0 ≤ k.1 ∧ k.1 ≤ k.2 ∧ k.2 ≤ 1114111) : bytesOf (spanR k) = spanW k := by
  unfold spanR spanW
  rw [bytesOf_app, quote_bytes k.1 (by omega) (by omega)]
  congr 1
  split
  · show bytesOf ([45] ++ quoteR k.2) = _
    rw [bytesOf_app, quote_bytes k.2 (by omega) (by omega)]
    rfl
  · rfl
theorem print_bytes (l : Spans) (h : ∀ k ∈ l, 0 ≤ k.1 ∧ k.1 ≤ k.2 ∧ k.2 ≤ 1114111) : bytesOf (printR l) = [91] ++ printL l ++ [93] := by
  have key : ∀ l : Spans, (∀ k ∈ l, 0 ≤ k.1 ∧ k.1 ≤ k.2 ∧ k.2 ≤ 1114111) → bytesOf (l.flatMap spanR) = printL l := by
    intro l
    induction l with
    | nil => intro _; rfl
    | cons k l ih =>
      intro h
      rw [List.flatMap_cons, bytesOf_app, span_bytes k (h k List.mem_cons_self), ih (fun x hx => h x (List.mem_cons_of_mem _ hx))]
      rfl
  show bytesOf ([91] ++ (l.flatMap spanR ++ [93])) = _
  rw [bytesOf_app, bytesOf_app, key l h]
  rfl
theorem quoteR_right (r : Int) (h0 : 0 ≤ r) (h1 : r ≤ 1114111) : (quoteR r).all rightB = true := by
  unfold quoteR
  split
  · rename_i hs
    rcases (self_iff r).1 hs with h | h
    · have := alnum_right h
      simp [this]
    · simp [h.2]
  · have hr6 : r.toNat < 16 ^ (5 + 1) := by
      have : r.toNat < 16777216 := by omega
      simpa using this
    obtain ⟨g1, _⟩ := hexR_is 5 r.toNat hr6
    rw [List.all_append, List.all_append]
    have : (hexR r.toNat).all rightB = true := by
      rw [List.all_eq_true]
      intro d hd
      have := hex_ascii (l := hexR r.toNat) g1 d hd
      simp [rightB]
      omega
    rw [this]
    decide
theorem printR_right (l : Spans) (h : ∀ k ∈ l, 0 ≤ k.1 ∧ k.1 ≤ k.2 ∧ k.2 ≤ 1114111) : (printR l).all rightB = true := by
  have key : ∀ l : Spans, (∀ k ∈ l, 0 ≤ k.1 ∧ k.1 ≤ k.2 ∧ k.2 ≤ 1114111) → (l.flatMap spanR).all rightB = true := by
    intro l
    induction l with
    | nil => intro _; rfl
    | cons k l ih =>
      intro h
      have hk := h k List.mem_cons_self
      rw [List.flatMap_cons, List.all_append, ih (fun x hx => h x (List.mem_cons_of_mem _ hx)), Bool.and_true]
      unfold spanR
      rw [List.all_append, quoteR_right k.1 (by omega) (by omega), Bool.true_and]
      split
      · rw [List.all_cons, quoteR_right k.2 (by omega) (by omega)]
        decide
      · rfl
  unfold printR
  rw [List.all_cons, List.all_append, key l h]
  decide
/-- The runes of a set's text. -/
theorem print_runes (l : Spans) (hr : RightSet l) : runesOf (printP l).1 0 = printR l := by
  have e : (printP l).1 = ⟨(bytesOf (printR l)).toArray⟩ := by
    unfold printP
    rw [if_pos (wrong_of hr), print_bytes l hr.each]
  rw [e]
  exact (turn_runes _ (printR_right l hr.each)).1
/-- What is written of a right set is read as it. -/
theorem read_print (l : Spans) (hr : RightSet l) (h150 : l.length ≤ 150) : readP (runesOf (printP l).1 0) = (l, (0, 0)) := by rw [print_runes l hr, print_read l hr h150]
theorem printP_ok {l : Spans} (hr : RightSet l) : (printP l).2 = 0 := by unfold printP; rw [if_pos (wrong_of hr)]
theorem printP_size {l : Spans} (hr : RightSet l) : (printP l).1.size ≤ 5000 := by
  have := print_len l hr.each
  have h2 := hr.size
  unfold printP
  rw [if_pos (wrong_of hr)]
  rw [size_of, List.length_append, List.length_append, List.length_singleton, List.length_singleton]
  omega
/-- What is read is right. -/
theorem readP_right {L : List Int} (hL : RunesOk L) : RightSet (readP L).1 := by
  unfold readP
  split
  · exact right_nil
  · split
    · exact right_nil
    · rename_i s j h1
      split
      · exact right_nil
      · exact (setP_ok hL 20 _ _ _ h1).2

end Go.Proofs.YthnhbcohfoodlaaGreatDoor
