/- Encode: the walk of runes.Encode: the text of any runes, or that one of them is none. -/
import Derived.Test.YthgkgcdnidkckaaDoorWriteRune
import Derived.Test.YthgkgcdnidkckaaDoorRight
namespace Go.Proofs.YthgkgcdnidkckaaDoor
open Go.RowKit Go.Shelf

/-- Runes as bytes. -/
def bytesOf (l : List Int) : List UInt8 := l.flatMap Lib.encodeRune
theorem bytesOf_len (l : List Int) : (bytesOf l).length ≤ 4 * l.length := by
  induction l with
  | nil => simp [bytesOf]
  | cons a l ih =>
    have h1 : (Lib.encodeRune a).length ≤ 4 := by rw [← Lib.runeCells_length]; exact (Lib.runeCells_le a).2
    simp only [bytesOf, List.flatMap_cons, List.length_append, List.length_cons] at ih ⊢
    omega
theorem byteCells_append (a b : List UInt8) : Lib.byteCells (a ++ b) = Lib.byteCells a ++ Lib.byteCells b := by simp [Lib.byteCells]
theorem bytesOf_succ (l : List Int) (k : Nat) (r : Int) (h : l[k]? = some r) : Lib.byteCells (bytesOf (l.take (k + 1))) = Lib.byteCells (bytesOf (l.take k)) ++ Lib.runeCells r := by
  obtain ⟨hk, rfl⟩ := List.getElem?_eq_some_iff.1 h
  rw [List.take_succ_eq_append_getElem hk, ← Lib.byteCells_encodeRune, ← byteCells_append]
  simp only [bytesOf, List.flatMap_append, List.flatMap_cons, List.flatMap_nil, List.append_nil]

/-- What Encode answers. -/
def encP (l : List Int) : ByteArray × Int := if l.all rightB then (⟨(bytesOf l).toArray⟩, 0) else (⟨#[]⟩, 3)

theorem builder_new (w : World) (B : Nat) (hB : B ≤ w.heap.size) : IsB B w.heap.size [] (w.alloc (.cells #[.pointer none, .slice none 0 0] 43)) :=
  .inl ⟨hB, _, heap_alloc_new _ _, ⟨rfl, .inl ⟨rfl, rfl⟩⟩, by simp [Value.ownBlock]⟩

theorem right_range {r : Int} (h : rightB r = true) : 0 ≤ r ∧ r ≤ 1114111 := by
  simp [rightB] at h
  omega

def EncRel (w : World) (l : List Int) (n : Nat) (i : Value) (wr : World) : Prop :=
  ∃ k : Nat, k ≤ n ∧ i = .int .i64 k ∧ (l.take k).all rightB = true ∧ IsB w.heap.size w.heap.size (Lib.byteCells (bytesOf (l.take k))) wr ∧ Below w.heap.size w wr

theorem all_succ_b (l : List Int) (k : Nat) (r : Int) (h : l[k]? = some r) : (l.take (k + 1)).all rightB = ((l.take k).all rightB && rightB r) := by
  obtain ⟨hk, rfl⟩ := List.getElem?_eq_some_iff.1 h
  rw [List.take_succ_eq_append_getElem hk]
  simp only [List.all_append, List.all_cons, List.all_nil, Bool.and_true]
theorem all_no (l : List Int) (k : Nat) (r : Int) (h : l[k]? = some r) (hr : rightB r = false) : l.all rightB = false := by
  rw [List.all_eq_false]
  exact ⟨r, List.mem_of_getElem? h, by simp [hr]⟩

set_option maxHeartbeats 400000 in
theorem encode_any (A : Option Addr) (n c : Nat) (l : List Int) (w : World) (hn : n ≤ 1099511627776) (hl : RdR w w.heap.size A n l) :
    Calls Tryd.prog 10 #[.slice A n c] w fun e w' => e = .returned (.tuple #[.string (encP l).1, .int .i64 (encP l).2]) ∧ Below w.heap.size w w' := by
  have hlen := hl.len
  have HL := Lib.hid hlen
  clear hlen
  have HR := Lib.hid hl
  clear hl
  go_enter Tryd.func10, Tryd.ntmps10
  go_wp2
  go_loopw [9] (EncRel w l n) (fun i _ => n - (intOf i).toNat)
  case atStart => exact ⟨0, Nat.zero_le _, rfl, rfl, builder_new w _ (Nat.le_refl _), (Below.refl _ _).alloc (Nat.le_refl _) _⟩
  case round =>
    obtain ⟨k, hk, rfl, hall, hB, hb⟩ := hrel
    have hz := hb.size
    by_cases hlt : k < n
    · obtain ⟨b, off, rfl, hbb, hc0⟩ := HR.out.at hlt
      obtain ⟨r, hr⟩ : ∃ r, l[k]? = some r := ⟨_, List.getElem?_eq_getElem (by rw [HL.out]; exact hlt)⟩
      rw [List.getD, hr, Option.getD_some] at hc0
      have hc1 := (hb.cell (p := ⟨b, off + k, none⟩) hbb).trans hc0
      clear hc0
      have hbl := bytesOf_len (l.take k)
      have htk : (l.take k).length ≤ k := List.length_take_le _ _
      have HB := Lib.hid hB
      have HA := Lib.hid hall
      have HRK := Lib.hid hr
      clear hB hall hr
      cases hrb : rightB r
      · have hno := all_no l k r HRK.out hrb
        have HN := Lib.hid (show encP l = (⟨#[]⟩, 3) by unfold encP; rw [hno]; rfl)
        clear hno
        go_wp2_with (go_at_call 13; refine (runes_right _ _).mono ?_; rintro e w' ⟨rfl, rfl⟩)
        go_ret2
        rw [HN.out]
        exact ⟨rfl, hb⟩
      · obtain ⟨hr0, hr1⟩ := right_range hrb
        go_wp2_with (go_at_call 13; refine (runes_right _ _).mono ?_; rintro e w' ⟨rfl, rfl⟩)
        refine (write_rune w.heap.size w.heap.size _ r (by omega) (by omega) wr HB.out (by simp only [Lib.byteCells, List.length_map]; omega) hz).mono ?_
        rintro e w2 ⟨rfl, hB2, hb2, _⟩
        have hb3 := hb.trans hb2
        rw [← bytesOf_succ l k r HRK.out] at hB2
        have hall2 := all_succ_b l k r HRK.out
        rw [HA.out, hrb] at hall2
        clear hb2
        go_wp2
        exact ⟨⟨k + 1, by omega, by go_num, by simpa using hall2, .inr hB2, hb3⟩, by simp [intOf]; omega⟩
    · obtain rfl : k = n := by omega
      rw [List.take_of_length_le (by rw [HL.out]; omega)] at hall hB
      have HE := Lib.hid (show encP l = (⟨(bytesOf l).toArray⟩, 0) by unfold encP; rw [hall]; rfl)
      clear hall
      have HB := Lib.hid hB
      clear hB
      go_wp2_with fail
      refine (Tryd.Builder_String_any_f w.heap.size w.heap.size (bytesOf l) wr HB.out hz).mono ?_
      rintro e w2 ⟨rfl, _, hb2⟩
      go_wp2
      go_ret2
      rw [HE.out]
      exact ⟨rfl, hb.trans hb2⟩

end Go.Proofs.YthgkgcdnidkckaaDoor
