/- Print + PrintTurn + PrintBytes -/
import Derived.Test.YthnhbcohfoodlaaGreatDoorZt6
import Derived.Test.YthnhbcohfoodlaaGreatDoorZt8
import Derived.Test.YthnhbcohfoodlaaGreatDoorZt18
import Derived.Test.YthnhbcohfoodlaaGreatDoorShelf
import Derived.Test.YthnhbcohfoodlaaGreatDoorZt9
namespace Go.Proofs.YthnhbcohfoodlaaGreatDoor
open Go.RowKit Go.Shelf
def spanW (k : Int × Int) : List UInt8 := quoteP k.1 ++ (if k.1 < k.2 then 45 :: quoteP k.2 else [])
def printL (l : Spans) : List UInt8 := l.flatMap spanW
def printP (l : Spans) : ByteArray × Int := if wrongP l = 0 then (⟨([91] ++ printL l ++ [93]).toArray⟩, 0) else (⟨#[]⟩, wrongP l)
theorem wrongGo_ok (l : Spans) : ∀ prev, wrongGo prev l = 0 → ∀ k ∈ l, 0 ≤ k.1 ∧ k.1 ≤ k.2 ∧ k.2 ≤ 1114111 := by
 induction l with
 | nil => simp
 | cons z l ih =>
   intro prev h k hk
   obtain ⟨a, b⟩ := z
   rw [wrongGo] at h
   by_cases h1 : a < 0 ∨ 1114111 < b ∨ b < a
   ·rw [if_pos h1] at h; cases h
   rw [if_neg h1] at h
   by_cases h2 : touch prev a = true
   ·rw [if_pos h2] at h; cases h
   rw [if_neg h2] at h
   rcases List.mem_cons.1 hk with rfl | hk
   ·simp only; omega
   ·exact ih _ h k hk
theorem wrongP_ok {l : Spans} (h : wrongP l = 0) : l.length ≤ 200 ∧ ∀ k ∈ l, 0 ≤ k.1 ∧ k.1 ≤ k.2 ∧ k.2 ≤ 1114111 := by
 unfold wrongP at h
 by_cases h1 : 200 < l.length
 ·rw [if_pos h1] at h; cases h
 ·rw [if_neg h1] at h
  exact ⟨by omega, wrongGo_ok l none h⟩
theorem spanW_len (k : Int × Int) (h : 0 ≤ k.1 ∧ k.1 ≤ k.2 ∧ k.2 ≤ 1114111) : (spanW k).length ≤ 21 := by
 have h1 := quote_len k.1 (by omega) (by omega)
 have h2 := quote_len k.2 (by omega) (by omega)
 unfold spanW
 rw [List.length_append]
 split
 ·rw [List.length_cons]; omega
 ·rw [List.length_nil]; omega
theorem print_len (l : Spans) (h : ∀ k ∈ l, 0 ≤ k.1 ∧ k.1 ≤ k.2 ∧ k.2 ≤ 1114111) : (printL l).length ≤ 21 * l.length := by
 induction l with
 | nil => simp [printL]
 | cons z l ih =>
   have h1 := spanW_len z (h z (by simp))
   have h2 := ih (fun k hk => h k (by simp [hk]))
   simp only [printL, List.flatMap_cons, List.length_append, List.length_cons] at h2 ⊢
   omega
theorem print_succ (l : Spans) (k : Nat) (z : Int × Int) (h : l[k]? = some z) : printL (l.take (k + 1)) = printL (l.take k) ++ spanW z := by
 obtain ⟨hk, rfl⟩ := List.getElem?_eq_some_iff.1 h
 rw [List.take_succ_eq_append_getElem hk]
 simp only [printL, List.flatMap_append, List.flatMap_cons, List.flatMap_nil, List.append_nil]
theorem byteCells_len (a : List UInt8) : (Lib.byteCells a).length = a.length := by simp [Lib.byteCells]
theorem strCells_of (L : List UInt8) : Lib.strCells ⟨L.toArray⟩ = Lib.byteCells L := by simp [Lib.strCells, Lib.byteCells]
theorem size_of (L : List UInt8) : (⟨L.toArray⟩ : ByteArray).size = L.length := by simp [ByteArray.size]
theorem at_below {B b : Nat} {bs : List Value} {W W' : World} (h : AtB B b bs W) (hb : Below W.heap.size W W') : AtB B b bs W' := by
 have hlt := h.lt
 obtain ⟨hB, v, hv, hown, hne⟩ := h
 exact ⟨hB, v, (hb.block b hlt).trans hv, hown.kept (row := none) ⟨hb.os, hb.tape, hb.output, hb.size, fun k hk _ => hb.block k hk⟩ (Classical.em _), hne⟩
def PrRel (w : World) (b : Nat) (l : Spans) (n : Nat) (i : Value) (wr : World) : Prop :=
 ∃ k : Nat, k ≤ n ∧ i = .int .i64 k ∧ AtB w.heap.size b (Lib.byteCells ([91] ++ printL (l.take k))) wr ∧ Below w.heap.size w wr
set_option maxRecDepth 100000 in
set_option maxHeartbeats 1600000 in
theorem setsyn_print (A : Option Addr) (n c : Nat) (l : Spans) (w : World) (hn : n ≤ 9223372036854775807) (hl : RdS w w.heap.size A n l) (hd : w.cell? ⟨5, 15, none⟩ = some (.int .u8 4)) (hlt : 5 < w.heap.size) :
 Calls Tryz.prog 15 #[.slice A n c] w fun e w' => e = .returned (.tuple #[.string (printP l).1, .int .i64 (printP l).2]) ∧ Below w.heap.size w w' := by
 have HLEN := Lib.hid hl.len
 have HL := Lib.hid hl
 clear hl
 have HD := Lib.hid hd
 have HDL := Lib.hid hlt
 clear hd hlt
 by_cases hw0 : wrongP l = 0
 ·obtain ⟨h200, hok⟩ := wrongP_ok hw0
  have hn2 : n ≤ 200 := by rw [← HLEN.out]; exact h200
  have HP := Lib.hid (show printP l = (⟨([91] ++ printL l ++ [93]).toArray⟩, 0) by unfold printP; rw [if_pos hw0])
  have HOK := Lib.hid hok
  have HW := Lib.hid hw0
  clear hok hw0
  go_enter Tryz.func15, Tryz.ntmps15
  go_wp2_with fail
  refine (sets_wrong A n c l w hn HL.out).mono ?_
  rintro e w1 ⟨rfl, hb1⟩
  rw [HW.out]
  have hz1 := hb1.size
  have HB0 := Lib.hid (builder_new w1 w.heap.size hz1)
  have HB1 := Lib.hid hb1
  go_wp2_with fail
  refine (write_byte w.heap.size w1.heap.size [] 91 _ HB0.out (by simp) (by simp; omega)).mono ?_
  rintro e w2 ⟨rfl, hB2, hb2⟩
  have hb02 := (HB1.out.alloc hz1 _).trans hb2
  clear hb1 hb2
  generalize w1.heap.size = b at *
  clear HB0 HB1 hz1
  go_wp2_with fail
  go_loopw [16] (PrRel w b l n) (fun i _ => n - (intOf i).toNat)
  case atStart => exact ⟨0, Nat.zero_le _, rfl, hB2, hb02⟩
  case round =>
   obtain ⟨k, hk, rfl, hB, hb⟩ := hrel
   have hz := hb.size
   have hpl := print_len (l.take k) (fun x hx => HOK.out x (List.mem_of_mem_take hx))
   have htk : (l.take k).length ≤ k := List.length_take_le _ _
   by_cases hkn : k < n
   ·obtain ⟨⟨x, y⟩, hx⟩ : ∃ z, l[k]? = some z := ⟨_, List.getElem?_eq_getElem (by rw [HLEN.out]; exact hkn)⟩
    have hok := HOK.out (x, y) (List.mem_of_getElem? hx)
    dsimp only at hok
    obtain ⟨ho1, ho2, ho3⟩ := hok
    obtain ⟨b2, off, rfl, hbb, c0, c1⟩ := HL.out.at hx
    have d0 := (hb.cell (p := ⟨b2, off + k * 2, none⟩) hbb).trans c0
    have d1 := (hb.cell (p := ⟨b2, off + k * 2 + 1, none⟩) hbb).trans c1
    have hsucc := print_succ l k _ hx
    have hblt := hB.lt
    have hq1 := quote_len x (by omega) (by omega)
    have hq2 := quote_len y (by omega) (by omega)
    have HS := Lib.hid hsucc
    have HX := Lib.hid hx
    have HB := Lib.hid hB
    clear hsucc hx hB c0 c1
    have hb3 := hb.alloc hz (.cells #[.int .i32 x, .int .i32 y] 74)
    have hd3 := (hb3.cell HDL.out).trans HD.out
    have HB3 := Lib.hid (HB.out.alloc (.cells #[.int .i32 x, .int .i32 y] 74))
    have HK3 := Lib.hid (Blk.new wr 74 #[.int .i32 x, .int .i32 y])
    have HD3 := Lib.hid hd3
    clear hd3
    go_wp2_with fail
    refine (setsyn_quote x (by omega) (by omega) _ HD3.out).mono ?_
    rintro e w4 ⟨rfl, hb4⟩
    have HB4 := Lib.hid (at_below HB3.out hb4)
    have HK4 := Lib.hid (Blk.below HK3.out hb4 HK3.out.lt)
    have hb4' := hb3.trans (hb4.mono (by simp; omega))
    have hz4 := hb4'.size
    clear hb4
    go_wp2_with fail
    refine (write_string w.heap.size b _ _ _ (.inr HB4.out) (by rw [byteCells_len, size_of]; simp; omega) hz4).mono ?_
    rintro e w5 ⟨rfl, hB5, hb5, hk5⟩
    have hb5' := hb4'.trans hb5
    have hz5 := hb5'.size
    have hK5 : Blk w5 wr.heap.size 74 #[.int .i32 x, .int .i32 y] := hk5 _ _ HK4.out (by simp; omega) (by intro c fz h; injection h with _ h2; exact absurd h2 (by decide))
    have e0 : w5.cell? ⟨wr.heap.size, 0, none⟩ = some (.int .i32 x) := hK5.cell 0
    have e1 : w5.cell? ⟨wr.heap.size, 1, none⟩ = some (.int .i32 y) := hK5.cell 1
    rw [strCells_of, ← byteCells_append] at hB5
    have HB5 := Lib.hid hB5
    clear hB5 hb5 hk5
    have hd5 := (hb5'.cell HDL.out).trans HD.out
    by_cases hxy : x < y
    ·have hK5' := Lib.hid hK5
     clear hK5
     go_wp2_with fail
     refine (setsyn_quote y (by omega) (by omega) _ hd5).mono ?_
     rintro e w6 ⟨rfl, hb6⟩
     have HB6 := Lib.hid (at_below HB5.out hb6)
     have hb6' := hb5'.trans (hb6.mono hz5)
     have hz6 := hb6'.size
     clear hb6
     go_wp2_with fail
     rw [show (⟨#[45]⟩ : ByteArray) ++ ⟨(quoteP y).toArray⟩ = ⟨(45 :: quoteP y).toArray⟩ from ba_append [45] _]
     refine (write_string w.heap.size b _ _ _ (.inr HB6.out) (by rw [byteCells_len, size_of]; simp; omega) hz6).mono ?_
     rintro e w7 ⟨rfl, hB7, hb7, _⟩
     rw [strCells_of, ← byteCells_append] at hB7
     have hb7' := hb6'.trans hb7
     go_wp2_with fail
     refine ⟨⟨k + 1, by omega, by go_num, ?_, hb7'⟩, by simp [intOf]; omega⟩
     rw [HS.out, spanW, if_pos hxy, ← List.append_assoc, ← List.append_assoc]
     exact hB7
    ·go_wp2_with fail
     refine ⟨⟨k + 1, by omega, by go_num, ?_, hb5'⟩, by simp [intOf]; omega⟩
     have := HB5.out
     rw [HS.out, spanW, if_neg (show ¬ x < y by omega), List.append_nil, ← List.append_assoc]
     exact this
   ·obtain rfl : k = n := by omega
    rw [List.take_of_length_le (by rw [HLEN.out]; omega)] at hB hpl
    have HB := Lib.hid hB
    clear hB
    have hll := HLEN.out
    go_wp2_with fail
    refine (write_byte w.heap.size b _ 93 _ (.inr HB.out) (by rw [byteCells_len]; simp; omega) hz).mono ?_
    rintro e w3 ⟨rfl, hB3, hb3⟩
    have hb3' := hb.trans hb3
    have hz3 := hb3'.size
    rw [show [Value.int .u8 93] = Lib.byteCells [93] from rfl, ← byteCells_append] at hB3
    have HB3 := Lib.hid hB3
    clear hB3
    go_wp2_with fail
    refine (Tryz.Builder_String_any_f w.heap.size b _ w3 (.inr HB3.out) hz3).mono ?_
    rintro e w4 ⟨rfl, _, hb4⟩
    go_wp2_with fail
    go_ret2
    rw [HP.out]
    exact ⟨rfl, hb3'.trans hb4⟩
 ·have HP := Lib.hid (show printP l = (⟨#[]⟩, wrongP l) by unfold printP; rw [if_neg hw0])
  go_enter Tryz.func15, Tryz.ntmps15
  go_wp2_with fail
  refine (sets_wrong A n c l w hn HL.out).mono ?_
  rintro e w1 ⟨rfl, hb1⟩
  go_wp2_with fail
  go_ret2
  rw [HP.out]
  exact ⟨rfl, hb1⟩
end Go.Proofs.YthnhbcohfoodlaaGreatDoor

namespace Go.Proofs.YthnhbcohfoodlaaGreatDoor
open Go.RowKit
def hexR (n : Nat) : List Int := (hexL n).map fun b => (b.toNat : Int)
theorem hexd_is (d : Nat) (h : d < 16) : hexB ((hexd d).toNat : Int) = true ∧ hexV ((hexd d).toNat : Int) = d := by
 have : d = 0 ∨ d = 1 ∨ d = 2 ∨ d = 3 ∨ d = 4 ∨ d = 5 ∨ d = 6 ∨ d = 7 ∨ d = 8 ∨ d = 9 ∨ d = 10 ∨ d = 11 ∨ d = 12 ∨ d = 13 ∨ d = 14 ∨ d = 15 := by omega
 rcases this with rfl | rfl | rfl | rfl | rfl | rfl | rfl | rfl | rfl | rfl | rfl | rfl | rfl | rfl | rfl | rfl <;> decide
theorem hexVal_app (l : List Int) (d : Int) : hexVal (l ++ [d]) = 16 * hexVal l + hexV d := by unfold hexVal; rw [List.foldl_append]; rfl
theorem hexR_is (k : Nat) : ∀ n, n < 16 ^ (k + 1) → (∀ d ∈ hexR n, hexB d = true) ∧ hexVal (hexR n) = n := by
 induction k with
 | zero =>
   intro n h
   have h16 : n < 16 := by simpa using h
   obtain ⟨h1, h2⟩ := hexd_is n h16
   unfold hexR
   rw [hexL_small h16]
   refine ⟨by simpa using h1, ?_⟩
   simp [hexVal, h2]
 | succ k ih =>
   intro n h
   by_cases h16 : n < 16
   ·obtain ⟨h1, h2⟩ := hexd_is n h16
    unfold hexR
    rw [hexL_small h16]
    refine ⟨by simpa using h1, ?_⟩
    simp [hexVal, h2]
   ·have hn : n / 16 < 16 ^ (k + 1) := by
     rw [Nat.pow_succ] at h
     omega
    obtain ⟨i1, i2⟩ := ih (n / 16) hn
    obtain ⟨h1, h2⟩ := hexd_is (n % 16) (Nat.mod_lt _ (by decide))
    have e : hexR n = hexR (n / 16) ++ [((hexd (n % 16)).toNat : Int)] := by unfold hexR; rw [hexL_big (by omega)]; simp
    rw [e, hexVal_app, i2, h2]
    refine ⟨fun d hd => ?_, by omega⟩
    rcases List.mem_append.1 hd with hd | hd
    ·exact i1 d hd
    ·rw [List.mem_singleton.1 hd]; exact h1
theorem hexL_pos (n : Nat) : 1 ≤ (hexL n).length := by
 rw [hexL]
 split
 ·simp
 ·simp
theorem hexR_len {n : Nat} (h : n < 16777216) : 1 ≤ (hexR n).length ∧ (hexR n).length ≤ 6 := by
 unfold hexR
 rw [List.length_map]
 exact ⟨hexL_pos n, hexL_length 5 n (by simpa using h)⟩
def selfB (r : Int) : Bool := alnumB r || (decide (126 < r) && rightB r)
def quoteR (r : Int) : List Int := if selfB r = true then [r] else [92, 117, 123] ++ hexR r.toNat ++ [125]
def headOk (h : Int) : Prop := plainB h = true ∨ h = 92
theorem self_plain {r : Int} (h : selfB r = true) : plainB r = true := by
 have hr : (48 ≤ r ∧ r ≤ 57) ∨ (65 ≤ r ∧ r ≤ 90) ∨ (97 ≤ r ∧ r ≤ 122) ∨ 126 < r := by
  unfold selfB alnumB at h
  simp only [Bool.or_eq_true, Bool.and_eq_true, decide_eq_true_eq] at h
  omega
 unfold plainB blankB
 simp [specialL]
 omega
theorem quoteR_head (r : Int) : ∃ h t, quoteR r = h :: t ∧ headOk h := by
 unfold quoteR
 split
 ·rename_i hs; exact ⟨r, [], rfl, .inl (self_plain hs)⟩
 ·exact ⟨92, _, rfl, .inr rfl⟩
theorem headOk_ne {h : Int} (hh : headOk h) : h ≠ 91 ∧ h ≠ 38 ∧ h ≠ 45 ∧ h ≠ 93 ∧ h ≠ 94 ∧ blankB h = false ∧ h ≠ 58 := by
 rcases hh with hh | rfl
 ·refine ⟨?_, ?_, ?_, ?_, ?_, ?_, ?_⟩
  all_goals first | (rintro rfl; exact absurd hh (by decide)) | skip
  unfold plainB at hh
  cases hb : blankB h
  ·rfl
  ·rw [hb] at hh; simp at hh
 ·decide
theorem pk_app (pre m : List Int) (i : Nat) : pk (pre ++ m) (pre.length + i) = pk m i := by
 unfold pk
 rw [List.getElem?_append_right (by omega), show pre.length + i - pre.length = i by omega]
theorem pk_app0 (pre m : List Int) : pk (pre ++ m) pre.length = pk m 0 := pk_app pre m 0
theorem pk_cons0 (x : Int) (m : List Int) : pk (x :: m) 0 = x := rfl
theorem takeWhile_stop {p : Int → Bool} (h : List Int) (x : Int) (post : List Int) (h1 : ∀ d ∈ h, p d = true) (h2 : p x = false) : (h ++ x :: post).takeWhile p = h := by
 induction h with
 | nil => simp [h2]
 | cons a h ih =>
   rw [List.cons_append, List.takeWhile_cons, h1 a List.mem_cons_self]
   simp only [if_true]
   rw [ih (fun d hd => h1 d (List.mem_cons_of_mem _ hd))]
theorem hex_read (pre h post : List Int) (hh : ∀ d ∈ h, hexB d = true) (h1 : 1 ≤ h.length) (h6 : h.length ≤ 6) (hm : hexVal h ≤ 1114111) :
 hexP (pre ++ (117 :: 123 :: (h ++ 125 :: post))) pre.length = .ok (hexVal h, pre.length + 2 + h.length + 1) := by
 have e2 : pre ++ (117 :: 123 :: (h ++ 125 :: post)) = (pre ++ [117, 123]) ++ (h ++ 125 :: post) := by simp
 have hl : (pre ++ [117, 123]).length = pre.length + 2 := by simp
 have hd : (pre ++ (117 :: 123 :: (h ++ 125 :: post))).drop (pre.length + 2) = h ++ 125 :: post := by
  rw [e2, ← hl, List.drop_append_of_le_length (Nat.le_refl _), List.drop_length, List.nil_append]
 have hr : runFrom hexB (pre ++ (117 :: 123 :: (h ++ 125 :: post))) (pre.length + 2) = pre.length + 2 + h.length := by
  unfold runFrom
  rw [hd, takeWhile_stop h 125 post hh (by decide)]
 have ht : textAt (pre ++ (117 :: 123 :: (h ++ 125 :: post))) (pre.length + 2) (pre.length + 2 + h.length) = h := by
  rw [← hr, textAt_run, hd, takeWhile_stop h 125 post hh (by decide)]
 have n1 : needP (pre ++ (117 :: 123 :: (h ++ 125 :: post))) (pre.length + 1) 123 = .ok (pre.length + 2) := needP_at (by rw [pk_app]; rfl)
 have n2 : needP (pre ++ (117 :: 123 :: (h ++ 125 :: post))) (pre.length + 2 + h.length) 125 = .ok (pre.length + 2 + h.length + 1) := needP_at (by
  have e3 : pre ++ (117 :: 123 :: (h ++ 125 :: post)) = (pre ++ [117, 123] ++ h) ++ (125 :: post) := by simp
  have hl3 : (pre ++ [117, 123] ++ h).length = pre.length + 2 + h.length := by simp; omega
  rw [e3, ← hl3, pk_app0]
  rfl)
 unfold hexP
 rw [n1]
 simp only
 rw [hr, if_neg (by omega), n2]
 simp only
 rw [ht, if_neg (by omega)]
theorem char_read (pre post : List Int) (r : Int) (h0 : 0 ≤ r) (h1 : r ≤ 1114111) : charP (pre ++ (quoteR r ++ post)) pre.length = .ok (r, pre.length + (quoteR r).length) := by
 unfold quoteR
 split
 ·rename_i hs
  unfold charP
  rw [pk_app0, List.singleton_append, pk_cons0, if_pos (self_plain hs)]
  rfl
 ·obtain ⟨g1, g2⟩ := hexR_is 5 r.toNat (by have : r.toNat < 16777216 := by omega
                                           simpa using this)
  obtain ⟨g3, g4⟩ := hexR_len (n := r.toNat) (by omega)
  have e : pre ++ ([92, 117, 123] ++ hexR r.toNat ++ [125] ++ post) = (pre ++ [92]) ++ (117 :: 123 :: (hexR r.toNat ++ 125 :: post)) := by simp
  have hp0 : pk (pre ++ ([92, 117, 123] ++ hexR r.toNat ++ [125] ++ post)) pre.length = 92 := by rw [pk_app0]; rfl
  have hp1 : pk (pre ++ ([92, 117, 123] ++ hexR r.toNat ++ [125] ++ post)) (pre.length + 1) = 117 := by rw [pk_app]; rfl
  have hx := hex_read (pre ++ [92]) (hexR r.toNat) post g1 g3 g4 (by rw [g2]; omega)
  rw [← e, g2] at hx
  unfold charP
  rw [hp0, hp1, if_neg (by decide), if_neg (by decide), if_neg (by decide), if_neg (by decide), if_pos rfl]
  have hl : (pre ++ [92]).length = pre.length + 1 := by simp
  rw [hl] at hx
  rw [hx]
  congr 2
  ·omega
  ·simp; omega
def spanR (k : Int × Int) : List Int := quoteR k.1 ++ (if k.1 < k.2 then 45 :: quoteR k.2 else [])
theorem spanR_head (k : Int × Int) : ∃ h t, spanR k = h :: t ∧ headOk h := by
 obtain ⟨h, t, e, hh⟩ := quoteR_head k.1
 exact ⟨h, _, by unfold spanR; rw [e]; rfl, hh⟩
theorem span_read (pre post : List Int) (k : Int × Int) (hk : 0 ≤ k.1 ∧ k.1 ≤ k.2 ∧ k.2 ≤ 1114111) (hp : pk post 0 ≠ 45) : spanP (pre ++ (spanR k ++ post)) pre.length = .ok (k, pre.length + (spanR k).length) := by
 obtain ⟨x, y⟩ := k
 simp only at hk
 unfold spanR
 by_cases hlt : x < y
 ·simp only [hlt, if_true]
  have c1 := char_read pre ((45 :: quoteR y) ++ post) x (by omega) (by omega)
  have e : pre ++ (quoteR x ++ 45 :: quoteR y ++ post) = pre ++ (quoteR x ++ ((45 :: quoteR y) ++ post)) := by simp
  have e2 : pre ++ (quoteR x ++ ((45 :: quoteR y) ++ post)) = (pre ++ quoteR x ++ [45]) ++ (quoteR y ++ post) := by simp
  have e3 : pre ++ (quoteR x ++ ((45 :: quoteR y) ++ post)) = (pre ++ quoteR x) ++ (45 :: (quoteR y ++ post)) := by simp
  have c2 := char_read (pre ++ quoteR x ++ [45]) post y (by omega) (by omega)
  have l1 : (pre ++ quoteR x).length = pre.length + (quoteR x).length := by simp
  have l2 : (pre ++ quoteR x ++ [45]).length = pre.length + (quoteR x).length + 1 := by simp; omega
  have p1 : pk (pre ++ (quoteR x ++ ((45 :: quoteR y) ++ post))) (pre.length + (quoteR x).length) = 45 := by rw [e3, ← l1, pk_app0]; rfl
  have p2 : pk (pre ++ (quoteR x ++ ((45 :: quoteR y) ++ post))) (pre.length + (quoteR x).length + 1) ≠ 91 := by
   rw [e2, ← l2, pk_app0]
   obtain ⟨h, t, eq, hh⟩ := quoteR_head y
   rw [eq, List.cons_append, pk_cons0]
   exact (headOk_ne hh).1
  rw [e]
  unfold spanP
  rw [c1]
  simp only
  rw [if_pos ⟨p1, p2⟩]
  rw [← e2, l2] at c2
  rw [c2]
  simp only
  rw [if_neg (by omega)]
  congr 2
  simp
  omega
 ·obtain rfl : x = y := by omega
  simp only [hlt, if_false, List.append_nil]
  have c1 := char_read pre post x (by omega) (by omega)
  have l1 : (pre ++ quoteR x).length = pre.length + (quoteR x).length := by simp
  have p1 : pk (pre ++ (quoteR x ++ post)) (pre.length + (quoteR x).length) ≠ 45 := by
   rw [← List.append_assoc, ← l1, pk_app0]
   exact hp
  unfold spanP
  rw [c1]
  simp only
  rw [if_neg (fun h => p1 h.1)]
theorem skip_here {L : List Int} {i : Nat} (h : blankB (pk L i) = false) : skipP L i = i := runFrom_out (fun _ => h)
theorem op_snoc {cur : Spans} {x : Int × Int} (h : RightSet (cur ++ [x])) (hc : RightSet cur) (hx : RightSet [x]) : opP 124 cur [x] = (cur ++ [x], 0) := by
 rw [op_is (s := cur ++ [x]) (by decide) hc hx h.canon (fun r _ _ => by rw [hasP_append]; simp [doHolds]), if_neg (by have := h.size; omega)]
theorem right_app {a b : Spans} (h : RightSet (a ++ b)) : RightSet a ∧ RightSet b := by
 have hr := List.pairwise_append.1 h.rise
 have hs := h.size
 rw [List.length_append] at hs
 exact ⟨⟨by omega, fun x hx => h.each x (List.mem_append_left _ hx), hr.1⟩, ⟨by omega, fun x hx => h.each x (List.mem_append_right _ hx), hr.2.1⟩⟩
theorem parts_read (inner : Nat → Rdg Spans) (post : List Int) (l : Spans) : ∀ (pre : List Int) (f : Nat) (cur : Spans), l.length < f → RightSet (cur ++ l) →
 partsP inner (pre ++ (l.flatMap spanR ++ 93 :: post)) f pre.length cur = .ok (cur ++ l, pre.length + (l.flatMap spanR).length + 1) := by
 induction l with
 | nil =>
   intro pre f cur hf _
   obtain ⟨f, rfl⟩ : ∃ g, f = g + 1 := ⟨f - 1, by simp at hf; omega⟩
   have hp : pk (pre ++ (([] : Spans).flatMap spanR ++ 93 :: post)) pre.length = 93 := by rw [pk_app0]; rfl
   have hs : skipP (pre ++ (([] : Spans).flatMap spanR ++ 93 :: post)) pre.length = pre.length := skip_here (by rw [hp]; decide)
   rw [partsP_end (by rw [hs]; exact hp), hs]
   simp
 | cons k l ih =>
   intro pre f cur hf hr
   obtain ⟨f, rfl⟩ : ∃ g, f = g + 1 := ⟨f - 1, by simp at hf; omega⟩
   rw [List.length_cons] at hf
   obtain ⟨h, t, eq, hh⟩ := spanR_head k
   obtain ⟨n1, n2, n3, n4, n5, n6, n7⟩ := headOk_ne hh
   have e : pre ++ ((k :: l).flatMap spanR ++ 93 :: post) = pre ++ (spanR k ++ (l.flatMap spanR ++ 93 :: post)) := by rw [List.flatMap_cons, List.append_assoc]
   have hp : pk (pre ++ (spanR k ++ (l.flatMap spanR ++ 93 :: post))) pre.length = h := by rw [pk_app0, eq]; rfl
   have hs : skipP (pre ++ (spanR k ++ (l.flatMap spanR ++ 93 :: post))) pre.length = pre.length := skip_here (by rw [hp]; exact n6)
   have hpost : pk (l.flatMap spanR ++ 93 :: post) 0 ≠ 45 := by
    cases l with
    | nil => simp [pk]
    | cons k2 l =>
      obtain ⟨h2, t2, eq2, hh2⟩ := spanR_head k2
      rw [List.flatMap_cons, eq2]
      simp only [List.cons_append, pk_cons0]
      exact (headOk_ne hh2).2.2.1
   have hk := hr.each k (by simp)
   have hspan := span_read pre (l.flatMap spanR ++ 93 :: post) k hk hpost
   have hpart : partP' inner (pre ++ (spanR k ++ (l.flatMap spanR ++ 93 :: post))) pre.length = .ok ([k], pre.length + (spanR k).length) := by
    unfold partP'
    rw [if_neg (fun x => n1 (by rw [← hp]; exact x.1)), if_neg (by rw [hp]; exact n1), if_neg (by rw [hp]; omega), hspan]
   have hr2 : RightSet ((cur ++ [k]) ++ l) := by rw [List.append_assoc]; exact hr
   have hop : opOf (pk (pre ++ (spanR k ++ (l.flatMap spanR ++ 93 :: post))) pre.length) = 124 := by rw [hp]; unfold opOf; rw [if_neg (by omega)]
   have ho := op_snoc (right_app hr2).1 (right_app hr).1 (right_one hk)
   rw [e, partsP_step (j := pre.length + (spanR k).length) (s := [k]) (by rw [hs, hp]; exact n4) (by rw [hs]; exact hpart), hs, hop, ho]
   simp only [ne_eq, not_true_eq_false, if_false]
   have hi := ih (pre ++ spanR k) f (cur ++ [k]) (by omega) hr2
   rw [List.length_append, List.append_assoc, List.append_assoc] at hi
   rw [hi, List.flatMap_cons, List.length_append, List.singleton_append]
   congr 2
   omega
def printR (l : Spans) : List Int := 91 :: (l.flatMap spanR ++ [93])
theorem printR_length (l : Spans) : (printR l).length = (l.flatMap spanR).length + 2 := by
 unfold printR
 rw [List.length_cons, List.length_append]
 rfl
theorem set_read (pre post : List Int) (l : Spans) (lv : Nat) (hr : RightSet l) : setP' (pre ++ (printR l ++ post)) (lv + 1) pre.length = .ok (l, pre.length + (printR l).length) := by
 have e : pre ++ (printR l ++ post) = (pre ++ [91]) ++ (l.flatMap spanR ++ 93 :: post) := by simp [printR]
 have hn : needP (pre ++ (printR l ++ post)) pre.length 91 = .ok (pre.length + 1) := needP_at (by rw [pk_app0]; rfl)
 have hl : (pre ++ [91]).length = pre.length + 1 := by simp
 have h94 : pk (pre ++ (printR l ++ post)) (pre.length + 1) ≠ 94 := by
  rw [e, ← hl, pk_app0]
  cases l with
  | nil => simp [pk]
  | cons k2 l =>
    obtain ⟨h2, t2, eq2, hh2⟩ := spanR_head k2
    rw [List.flatMap_cons, eq2]
    simp only [List.cons_append, pk_cons0]
    exact (headOk_ne hh2).2.2.2.2.1
 have hlen : l.length < (pre ++ (printR l ++ post)).length + 1 := by
  have key : ∀ l : Spans, l.length ≤ (l.flatMap spanR).length := by
   intro l
   induction l with
   | nil => simp
   | cons k l ih =>
     obtain ⟨h2, t2, eq2, _⟩ := spanR_head k
     rw [List.flatMap_cons, List.length_append, eq2, List.length_cons, List.length_cons]
     omega
  have := key l
  rw [List.length_append, List.length_append, printR_length]
  omega
 have hp := parts_read (setP' (pre ++ (printR l ++ post)) lv) post l (pre ++ [91]) ((pre ++ (printR l ++ post)).length + 1) [] hlen (by simpa using hr)
 rw [← e, hl, List.nil_append] at hp
 rw [setP', hn]
 simp only
 rw [if_neg h94, hp]
 simp only
 rw [if_neg h94, printR_length]
 congr 2
 omega
end Go.Proofs.YthnhbcohfoodlaaGreatDoor

namespace Go.Proofs.YthnhbcohfoodlaaGreatDoor
open Go.RowKit
theorem encode_lowR {r : Int} (h0 : 0 ≤ r) (h1 : r < 128) : Lib.encodeRune r = [r.toNat.toUInt8] := by
 unfold Lib.encodeRune
 rw [Lib.encodeRuneZ_one h0 (by omega)]
 rfl
theorem bytesOf_app (a b : List Int) : bytesOf (a ++ b) = bytesOf a ++ bytesOf b := by simp [bytesOf]
theorem bytesOf_low (l : List UInt8) (h : ∀ b ∈ l, b.toNat < 128) : bytesOf (l.map fun b => (b.toNat : Int)) = l := by
 induction l with
 | nil => rfl
 | cons b l ih =>
   have hb := h b List.mem_cons_self
   rw [List.map_cons]
   show bytesOf ([(b.toNat : Int)] ++ l.map fun b => (b.toNat : Int)) = b :: l
   rw [bytesOf_app, ih (fun x hx => h x (List.mem_cons_of_mem _ hx))]
   have : bytesOf [(b.toNat : Int)] = [b] := by
    simp only [bytesOf, List.flatMap_cons, List.flatMap_nil, List.append_nil]
    rw [encode_lowR (by omega) (by omega)]
    simp
   rw [this]
   rfl
theorem hexL_low (k : Nat) : ∀ n, n < 16 ^ (k + 1) → ∀ b ∈ hexL n, b.toNat < 128 := by
 have hd : ∀ d, d < 16 → (hexd d).toNat < 128 := by
  intro d h
  have := hex_ascii (l := [((hexd d).toNat : Int)]) (by simpa using (hexd_is d h).1) ((hexd d).toNat : Int) (by simp)
  omega
 induction k with
 | zero =>
   intro n h b hb
   have h16 : n < 16 := by simpa using h
   rw [hexL_small h16] at hb
   rw [List.mem_singleton.1 hb]
   exact hd n h16
 | succ k ih =>
   intro n h b hb
   by_cases h16 : n < 16
   ·rw [hexL_small h16] at hb
    rw [List.mem_singleton.1 hb]
    exact hd n h16
   ·rw [hexL_big (by omega)] at hb
    rcases List.mem_append.1 hb with hb | hb
    ·exact ih (n / 16) (by rw [Nat.pow_succ] at h; omega) b hb
    ·rw [List.mem_singleton.1 hb]; exact hd _ (Nat.mod_lt _ (by decide))
theorem self_iff (r : Int) : selfB r = true ↔ (alnumB r = true ∨ (126 < r ∧ rightB r = true)) := by
 unfold selfB
 simp only [Bool.or_eq_true, Bool.and_eq_true, decide_eq_true_eq]
theorem quote_bytes (r : Int) (h0 : 0 ≤ r) (h1 : r ≤ 1114111) : bytesOf (quoteR r) = quoteP r := by
 unfold quoteR quoteP
 by_cases hs : selfB r = true
 ·rw [if_pos hs, if_pos ((self_iff r).1 hs)]
  simp [bytesOf]
 ·rw [if_neg hs, if_neg (fun h => hs ((self_iff r).2 h))]
  have hr6 : r.toNat < 16 ^ (5 + 1) := by
   have : r.toNat < 16777216 := by omega
   simpa using this
  have hl := hexL_low 5 r.toNat hr6
  have e1 : ([92, 117, 123] : List Int) = ([92, 117, 123] : List UInt8).map fun b => (b.toNat : Int) := by decide
  have e2 : ([125] : List Int) = ([125] : List UInt8).map fun b => (b.toNat : Int) := by decide
  rw [bytesOf_app, bytesOf_app, e1, e2, hexR, bytesOf_low _ hl, bytesOf_low _ (by decide), bytesOf_low _ (by decide)]
theorem span_bytes (k : Int × Int) (hk : 0 ≤ k.1 ∧ k.1 ≤ k.2 ∧ k.2 ≤ 1114111) : bytesOf (spanR k) = spanW k := by
 unfold spanR spanW
 rw [bytesOf_app, quote_bytes k.1 (by omega) (by omega)]
 congr 1
 split
 ·show bytesOf ([45] ++ quoteR k.2) = _
  rw [bytesOf_app, quote_bytes k.2 (by omega) (by omega)]
  rfl
 ·rfl
theorem print_bytes (l : Spans) (h : ∀ k ∈ l, 0 ≤ k.1 ∧ k.1 ≤ k.2 ∧ k.2 ≤ 1114111) : bytesOf (printR l) = [91] ++ printL l ++ [93] := by
 have key : ∀ l : Spans, (∀ k ∈ l, 0 ≤ k.1 ∧ k.1 ≤ k.2 ∧ k.2 ≤ 1114111) → bytesOf (l.flatMap spanR) = printL l := by
  intro l
  induction l with
  | nil => intro _; rfl
  | cons k l ih =>
    intro h
    rw [List.flatMap_cons, bytesOf_app, span_bytes k (h k List.mem_cons_self), ih (fun x hx => h x (List.mem_cons_of_mem _ hx))]
    rfl
 show bytesOf ([91] ++ (l.flatMap spanR ++ [93])) = _
 rw [bytesOf_app, bytesOf_app, key l h]
 rfl
theorem quoteR_right (r : Int) (h0 : 0 ≤ r) (h1 : r ≤ 1114111) : (quoteR r).all rightB = true := by
 unfold quoteR
 split
 ·rename_i hs
  rcases (self_iff r).1 hs with h | h
  ·have := alnum_right h
   simp [this]
  ·simp [h.2]
 ·have hr6 : r.toNat < 16 ^ (5 + 1) := by
   have : r.toNat < 16777216 := by omega
   simpa using this
  obtain ⟨g1, _⟩ := hexR_is 5 r.toNat hr6
  rw [List.all_append, List.all_append]
  have : (hexR r.toNat).all rightB = true := by
   rw [List.all_eq_true]
   intro d hd
   have := hex_ascii (l := hexR r.toNat) g1 d hd
   simp [rightB]
   omega
  rw [this]
  decide
theorem printR_right (l : Spans) (h : ∀ k ∈ l, 0 ≤ k.1 ∧ k.1 ≤ k.2 ∧ k.2 ≤ 1114111) : (printR l).all rightB = true := by
 have key : ∀ l : Spans, (∀ k ∈ l, 0 ≤ k.1 ∧ k.1 ≤ k.2 ∧ k.2 ≤ 1114111) → (l.flatMap spanR).all rightB = true := by
  intro l
  induction l with
  | nil => intro _; rfl
  | cons k l ih =>
    intro h
    have hk := h k List.mem_cons_self
    rw [List.flatMap_cons, List.all_append, ih (fun x hx => h x (List.mem_cons_of_mem _ hx)), Bool.and_true]
    unfold spanR
    rw [List.all_append, quoteR_right k.1 (by omega) (by omega), Bool.true_and]
    split
    ·rw [List.all_cons, quoteR_right k.2 (by omega) (by omega)]
     decide
    ·rfl
 unfold printR
 rw [List.all_cons, List.all_append, key l h]
 decide
end Go.Proofs.YthnhbcohfoodlaaGreatDoor
