/- Sets as text: the walks of setsyn.Print and of scriptref3.Print: both tell printP. -/
import Derived.Test.YtdfljicijfceeaaDoorQuote
import Derived.Test.YtdfljicijfceeaaDoorWriteStr
import Derived.Test.YtdfljicijfceeaaDoorSpanRef
import Derived.Test.YtdfljicijfceeaaDoorShelf
namespace Go.Proofs.YtdfljicijfceeaaDoor
open Go.RowKit Go.Shelf

def spanW (k : Int × Int) : List UInt8 := quoteP k.1 ++ (if k.1 < k.2 then 45 :: quoteP k.2 else [])
def printL (l : Spans) : List UInt8 := l.flatMap spanW
/-- What Print answers. -/
def printP (l : Spans) : ByteArray × Int := if wrongP l = 0 then (⟨([91] ++ printL l ++ [93]).toArray⟩, 0) else (⟨#[]⟩, wrongP l)

theorem wrongGo_ok (l : Spans) : ∀ prev, wrongGo prev l = 0 → ∀ k ∈ l, 0 ≤ k.1 ∧ k.1 ≤ k.2 ∧ k.2 ≤ 1114111 := by
  induction l with
  | nil => simp
  | cons z l ih =>
    intro prev h k hk
    obtain ⟨a, b⟩ := z
    rw [wrongGo] at h
    by_cases h1 : a < 0 ∨ 1114111 < b ∨ b < a
    · rw [if_pos h1] at h; cases h
    rw [if_neg h1] at h
    by_cases h2 : touch prev a = true
    · rw [if_pos h2] at h; cases h
    rw [if_neg h2] at h
    rcases List.mem_cons.1 hk with rfl | hk
    · simp only; omega
    · exact ih _ h k hk
theorem wrongP_ok {l : Spans} (h : wrongP l = 0) : l.length ≤ 200 ∧ ∀ k ∈ l, 0 ≤ k.1 ∧ k.1 ≤ k.2 ∧ k.2 ≤ 1114111 := by
  unfold wrongP at h
  by_cases h1 : 200 < l.length
  · rw [if_pos h1] at h; cases h
  · rw [if_neg h1] at h
    exact ⟨by omega, wrongGo_ok l none h⟩

theorem spanW_len (k : Int × Int) (h : 0 ≤ k.1 ∧ k.1 ≤ k.2 ∧ k.2 ≤ 1114111) : (spanW k).length ≤ 21 := by
  have h1 := quote_len k.1 (by omega) (by omega)
  have h2 := quote_len k.2 (by omega) (by omega)
  unfold spanW
  rw [List.length_append]
  split
  · rw [List.length_cons]; omega
  · rw [List.length_nil]; omega
theorem print_len (l : Spans) (h : ∀ k ∈ l, 0 ≤ k.1 ∧ k.1 ≤ k.2 ∧ k.2 ≤ 1114111) : (printL l).length ≤ 21 * l.length := by
  induction l with
  | nil => simp [printL]
  | cons z l ih =>
    have h1 := spanW_len z (h z (by simp))
    have h2 := ih (fun k hk => h k (by simp [hk]))
    simp only [printL, List.flatMap_cons, List.length_append, List.length_cons] at h2 ⊢
    omega
theorem print_succ (l : Spans) (k : Nat) (z : Int × Int) (h : l[k]? = some z) : printL (l.take (k + 1)) = printL (l.take k) ++ spanW z := by
  obtain ⟨hk, rfl⟩ := List.getElem?_eq_some_iff.1 h
  rw [List.take_succ_eq_append_getElem hk]
  simp only [printL, List.flatMap_append, List.flatMap_cons, List.flatMap_nil, List.append_nil]

theorem byteCells_append (a b : List UInt8) : Lib.byteCells (a ++ b) = Lib.byteCells a ++ Lib.byteCells b := by simp [Lib.byteCells]
theorem byteCells_len (a : List UInt8) : (Lib.byteCells a).length = a.length := by simp [Lib.byteCells]
theorem strCells_of (L : List UInt8) : Lib.strCells ⟨L.toArray⟩ = Lib.byteCells L := by simp [Lib.strCells, Lib.byteCells]
theorem size_of (L : List UInt8) : (⟨L.toArray⟩ : ByteArray).size = L.length := by simp [ByteArray.size]
theorem builder_new (w : World) (B : Nat) (hB : B ≤ w.heap.size) : IsB B w.heap.size [] (w.alloc (.cells #[.pointer none, .slice none 0 0] 33)) :=
  .inl ⟨hB, _, heap_alloc_new _ _, ⟨rfl, .inl ⟨rfl, rfl⟩⟩, by simp [Value.ownBlock]⟩
theorem at_below {B b : Nat} {bs : List Value} {W W' : World} (h : AtB B b bs W) (hb : Below W.heap.size W W') : AtB B b bs W' := by
  have hlt := h.lt
  obtain ⟨hB, v, hv, hown, hne⟩ := h
  exact ⟨hB, v, (hb.block b hlt).trans hv, hown.kept (row := none) ⟨hb.os, hb.tape, hb.output, hb.size, fun k hk _ => hb.block k hk⟩ (Classical.em _), hne⟩

def PrRel (w : World) (b : Nat) (l : Spans) (n : Nat) (i : Value) (wr : World) : Prop :=
  ∃ k : Nat, k ≤ n ∧ i = .int .i64 k ∧ AtB w.heap.size b (Lib.byteCells ([91] ++ printL (l.take k))) wr ∧ Below w.heap.size w wr

set_option maxRecDepth 100000 in
set_option maxHeartbeats 1600000 in
theorem setsyn_print (A : Option Addr) (n c : Nat) (l : Spans) (w : World) (hn : n ≤ 9223372036854775807) (hl : RdS w w.heap.size A n l) (hd : w.cell? ⟨5, 15, none⟩ = some (.int .u8 4)) (hlt : 5 < w.heap.size) :
    Calls Tryd.prog 8 #[.slice A n c] w fun e w' => e = .returned (.tuple #[.string (printP l).1, .int .i64 (printP l).2]) ∧ Below w.heap.size w w' := by
  have HLEN := Lib.hid hl.len
  have HL := Lib.hid hl
  clear hl
  have HD := Lib.hid hd
  have HDL := Lib.hid hlt
  clear hd hlt
  by_cases hw0 : wrongP l = 0
  · obtain ⟨h200, hok⟩ := wrongP_ok hw0
    have hn2 : n ≤ 200 := by rw [← HLEN.out]; exact h200
    have HP := Lib.hid (show printP l = (⟨([91] ++ printL l ++ [93]).toArray⟩, 0) by unfold printP; rw [if_pos hw0])
    have HOK := Lib.hid hok
    have HW := Lib.hid hw0
    clear hok hw0
    go_enter Tryd.func8, Tryd.ntmps8
    go_wp2_with fail
    refine (sets_wrong A n c l w hn HL.out).mono ?_
    rintro e w1 ⟨rfl, hb1⟩
    rw [HW.out]
    have hz1 := hb1.size
    have HB0 := Lib.hid (builder_new w1 w.heap.size hz1)
    have HB1 := Lib.hid hb1
    go_wp2_with fail
    refine (write_byte w.heap.size w1.heap.size [] 91 _ HB0.out (by simp) (by simp; omega)).mono ?_
    rintro e w2 ⟨rfl, hB2, hb2⟩
    have hb02 := (HB1.out.alloc hz1 _).trans hb2
    clear hb1 hb2
    generalize w1.heap.size = b at *
    clear HB0 HB1 hz1
    go_wp2_with fail
    go_loopw [16] (PrRel w b l n) (fun i _ => n - (intOf i).toNat)
    case atStart => exact ⟨0, Nat.zero_le _, rfl, hB2, hb02⟩
    case round =>
      obtain ⟨k, hk, rfl, hB, hb⟩ := hrel
      have hz := hb.size
      have hpl := print_len (l.take k) (fun x hx => HOK.out x (List.mem_of_mem_take hx))
      have htk : (l.take k).length ≤ k := List.length_take_le _ _
      by_cases hkn : k < n
      · obtain ⟨⟨x, y⟩, hx⟩ : ∃ z, l[k]? = some z := ⟨_, List.getElem?_eq_getElem (by rw [HLEN.out]; exact hkn)⟩
        have hok := HOK.out (x, y) (List.mem_of_getElem? hx)
        dsimp only at hok
        obtain ⟨ho1, ho2, ho3⟩ := hok
        obtain ⟨b2, off, rfl, hbb, c0, c1⟩ := HL.out.at hx
        have d0 := (hb.cell (p := ⟨b2, off + k * 2, none⟩) hbb).trans c0
        have d1 := (hb.cell (p := ⟨b2, off + k * 2 + 1, none⟩) hbb).trans c1
        have hsucc := print_succ l k _ hx
        have hblt := hB.lt
        have hq1 := quote_len x (by omega) (by omega)
        have hq2 := quote_len y (by omega) (by omega)
        have HS := Lib.hid hsucc
        have HX := Lib.hid hx
        have HB := Lib.hid hB
        clear hsucc hx hB c0 c1
        have hb3 := hb.alloc hz (.cells #[.int .i32 x, .int .i32 y] 56)
        have hd3 := (hb3.cell HDL.out).trans HD.out
        have HB3 := Lib.hid (HB.out.alloc (.cells #[.int .i32 x, .int .i32 y] 56))
        have HK3 := Lib.hid (Blk.new wr 56 #[.int .i32 x, .int .i32 y])
        have HD3 := Lib.hid hd3
        clear hd3
        go_wp2_with fail
        refine (setsyn_quote x (by omega) (by omega) _ HD3.out).mono ?_
        rintro e w4 ⟨rfl, hb4⟩
        have HB4 := Lib.hid (at_below HB3.out hb4)
        have HK4 := Lib.hid (Blk.below HK3.out hb4 HK3.out.lt)
        have hb4' := hb3.trans (hb4.mono (by simp; omega))
        have hz4 := hb4'.size
        clear hb4
        go_wp2_with fail
        refine (write_string w.heap.size b _ _ _ (.inr HB4.out) (by rw [byteCells_len, size_of]; simp; omega) hz4).mono ?_
        rintro e w5 ⟨rfl, hB5, hb5, hk5⟩
        have hb5' := hb4'.trans hb5
        have hz5 := hb5'.size
        have hK5 : Blk w5 wr.heap.size 56 #[.int .i32 x, .int .i32 y] := hk5 _ _ HK4.out (by simp; omega) (by intro c fz h; injection h with _ h2; exact absurd h2 (by decide))
        have e0 : w5.cell? ⟨wr.heap.size, 0, none⟩ = some (.int .i32 x) := hK5.cell 0
        have e1 : w5.cell? ⟨wr.heap.size, 1, none⟩ = some (.int .i32 y) := hK5.cell 1
        rw [strCells_of, ← byteCells_append] at hB5
        have HB5 := Lib.hid hB5
        clear hB5 hb5 hk5
        have hd5 := (hb5'.cell HDL.out).trans HD.out
        by_cases hxy : x < y
        · have hK5' := Lib.hid hK5
          clear hK5
          go_wp2_with fail
          refine (setsyn_quote y (by omega) (by omega) _ hd5).mono ?_
          rintro e w6 ⟨rfl, hb6⟩
          have HB6 := Lib.hid (at_below HB5.out hb6)
          have hb6' := hb5'.trans (hb6.mono hz5)
          have hz6 := hb6'.size
          clear hb6
          go_wp2_with fail
          rw [show (⟨#[45]⟩ : ByteArray) ++ ⟨(quoteP y).toArray⟩ = ⟨(45 :: quoteP y).toArray⟩ from ba_append [45] _]
          refine (write_string w.heap.size b _ _ _ (.inr HB6.out) (by rw [byteCells_len, size_of]; simp; omega) hz6).mono ?_
          rintro e w7 ⟨rfl, hB7, hb7, _⟩
          rw [strCells_of, ← byteCells_append] at hB7
          have hb7' := hb6'.trans hb7
          go_wp2_with fail
          refine ⟨⟨k + 1, by omega, by go_num, ?_, hb7'⟩, by simp [intOf]; omega⟩
          rw [HS.out, spanW, if_pos hxy, ← List.append_assoc, ← List.append_assoc]
          exact hB7
        · go_wp2_with fail
          refine ⟨⟨k + 1, by omega, by go_num, ?_, hb5'⟩, by simp [intOf]; omega⟩
          have := HB5.out
          rw [HS.out, spanW, if_neg (show ¬ x < y by omega), List.append_nil, ← List.append_assoc]
          exact this
      · obtain rfl : k = n := by omega
        rw [List.take_of_length_le (by rw [HLEN.out]; omega)] at hB hpl
        have HB := Lib.hid hB
        clear hB
        have hll := HLEN.out
        go_wp2_with fail
        refine (write_byte w.heap.size b _ 93 _ (.inr HB.out) (by rw [byteCells_len]; simp; omega) hz).mono ?_
        rintro e w3 ⟨rfl, hB3, hb3⟩
        have hb3' := hb.trans hb3
        have hz3 := hb3'.size
        rw [show [Value.int .u8 93] = Lib.byteCells [93] from rfl, ← byteCells_append] at hB3
        have HB3 := Lib.hid hB3
        clear hB3
        go_wp2_with fail
        refine (Tryd.Builder_String_any_f w.heap.size b _ w3 (.inr HB3.out) hz3).mono ?_
        rintro e w4 ⟨rfl, _, hb4⟩
        go_wp2_with fail
        go_ret2
        rw [HP.out]
        exact ⟨rfl, hb3'.trans hb4⟩
  · have HP := Lib.hid (show printP l = (⟨#[]⟩, wrongP l) by unfold printP; rw [if_neg hw0])
    go_enter Tryd.func8, Tryd.ntmps8
    go_wp2_with fail
    refine (sets_wrong A n c l w hn HL.out).mono ?_
    rintro e w1 ⟨rfl, hb1⟩
    go_wp2_with fail
    go_ret2
    rw [HP.out]
    exact ⟨rfl, hb1⟩

def RpRel (w : World) (l : Spans) (n : Nat) (t i : Value) (wr : World) : Prop :=
  ∃ k : Nat, k ≤ n ∧ i = .int .i64 k ∧ t = .string ⟨([91] ++ printL (l.take k)).toArray⟩ ∧ Below w.heap.size w wr

set_option maxRecDepth 100000 in
set_option maxHeartbeats 1600000 in
theorem ref_print (A : Option Addr) (n c : Nat) (l : Spans) (w : World) (hn : n ≤ 9223372036854775807) (hl : RdS w w.heap.size A n l) :
    Calls Tryd.prog 14 #[.slice A n c] w fun e w' => e = .returned (.tuple #[.string (printP l).1, .int .i64 (printP l).2]) ∧ Below w.heap.size w w' := by
  have HLEN := Lib.hid hl.len
  have HL := Lib.hid hl
  clear hl
  by_cases hw0 : wrongP l = 0
  · obtain ⟨h200, hok⟩ := wrongP_ok hw0
    have hn2 : n ≤ 200 := by rw [← HLEN.out]; exact h200
    have HP := Lib.hid (show printP l = (⟨([91] ++ printL l ++ [93]).toArray⟩, 0) by unfold printP; rw [if_pos hw0])
    have HOK := Lib.hid hok
    have HW := Lib.hid hw0
    clear hok hw0
    go_enter Tryd.func14, Tryd.ntmps14
    go_wp2_with fail
    refine (ref2_wrong A n c l w hn HL.out).mono ?_
    rintro e w1 ⟨rfl, hb1⟩
    rw [HW.out]
    have hz1 := hb1.size
    go_wp2_with fail
    go_loopw [5, 15] (RpRel w l n) (fun _ i _ => n - (intOf i).toNat)
    case atStart => exact ⟨0, Nat.zero_le _, rfl, rfl, hb1⟩
    case round =>
      obtain ⟨k, hk, rfl, rfl, hb⟩ := hrel
      have hz := hb.size
      have hpl := print_len (l.take k) (fun x hx => HOK.out x (List.mem_of_mem_take hx))
      have htk : (l.take k).length ≤ k := List.length_take_le _ _
      by_cases hkn : k < n
      · obtain ⟨⟨x, y⟩, hx⟩ : ∃ z, l[k]? = some z := ⟨_, List.getElem?_eq_getElem (by rw [HLEN.out]; exact hkn)⟩
        have hok := HOK.out (x, y) (List.mem_of_getElem? hx)
        dsimp only at hok
        obtain ⟨ho1, ho2, ho3⟩ := hok
        obtain ⟨b2, off, rfl, hbb, c0, c1⟩ := HL.out.at hx
        have d0 := (hb.cell (p := ⟨b2, off + k * 2, none⟩) hbb).trans c0
        have d1 := (hb.cell (p := ⟨b2, off + k * 2 + 1, none⟩) hbb).trans c1
        have hsucc := print_succ l k _ hx
        have hq1 := quote_len x (by omega) (by omega)
        have hq2 := quote_len y (by omega) (by omega)
        have HS := Lib.hid hsucc
        have HX := Lib.hid hx
        clear hsucc hx c0 c1
        generalize hT : [91] ++ printL (l.take k) = T at *
        have hTl : T.length ≤ 21 * 200 + 1 := by rw [← hT]; simp; omega
        have HT := Lib.hid hT
        clear hT
        have hb3 := hb.alloc hz (.cells #[.int .i32 x, .int .i32 y] 56)
        have HK3 := Lib.hid (Blk.new wr 56 #[.int .i32 x, .int .i32 y])
        go_wp2_with fail
        refine (ref_quote x (by omega) (by omega) _).mono ?_
        rintro e w4 ⟨rfl, hb4⟩
        have hK4 := Blk.below HK3.out hb4 HK3.out.lt
        have e0 : w4.cell? ⟨wr.heap.size, 0, none⟩ = some (.int .i32 x) := hK4.cell 0
        have e1 : w4.cell? ⟨wr.heap.size, 1, none⟩ = some (.int .i32 y) := hK4.cell 1
        have HK4 := Lib.hid hK4
        clear hK4
        have hb4' := hb3.trans (hb4.mono (by simp; omega))
        have hz4 := hb4'.size
        clear hb4
        by_cases hxy : x = y
        · subst hxy
          go_wp2_with fail
          refine ⟨⟨k + 1, by omega, by go_num, ?_, hb4'⟩, by simp [intOf]; omega⟩
          rw [HS.out, spanW, if_neg (by omega), List.append_nil, ← List.append_assoc, HT.out, ba_append]
        · have hxb : (x != y) = true := by simpa using hxy
          go_wp2_with fail
          refine (ref_quote y (by omega) (by omega) _).mono ?_
          rintro e w6 ⟨rfl, hb6⟩
          have hb6' := hb4'.trans (hb6.mono hz4)
          clear hb6
          go_wp2_with fail
          refine ⟨⟨k + 1, by omega, by go_num, ?_, hb6'⟩, by simp [intOf]; omega⟩
          rw [HS.out, spanW, if_pos (show x < y by omega), ← List.append_assoc, ← List.append_assoc, HT.out, ← ba_append, ← ba_append]
          show _ = Value.string (_ ++ ⟨(45 :: quoteP y).toArray⟩)
          rw [show (⟨(45 :: quoteP y).toArray⟩ : ByteArray) = ⟨#[45]⟩ ++ ⟨(quoteP y).toArray⟩ from (ba_append [45] _).symm, ← ByteArray.append_assoc]
      · obtain rfl : k = n := by omega
        rw [List.take_of_length_le (by rw [HLEN.out]; omega)] at hpl ⊢
        have hll := HLEN.out
        generalize hT : [91] ++ printL l = T at *
        have hTl : T.length ≤ 21 * 200 + 1 := by rw [← hT]; simp; omega
        have HT := Lib.hid hT
        clear hT
        go_wp2_with fail
        go_ret2
        rw [HP.out, ← ba_append]
        exact ⟨rfl, hb⟩
  · have HP := Lib.hid (show printP l = (⟨#[]⟩, wrongP l) by unfold printP; rw [if_neg hw0])
    go_enter Tryd.func14, Tryd.ntmps14
    go_wp2_with fail
    refine (ref2_wrong A n c l w hn HL.out).mono ?_
    rintro e w1 ⟨rfl, hb1⟩
    go_wp2_with fail
    go_ret2
    rw [HP.out]
    exact ⟨rfl, hb1⟩

end Go.Proofs.YtdfljicijfceeaaDoor
