/- Bytes and Encode of the document's answer: the walks of scriptref1.Bytes and scriptref1.Encode: the text of any runes, or that one of them is none. -/
import Derived.Test.YthgkgcdnidkckaaDoorEncode
namespace Go.Proofs.YthgkgcdnidkckaaDoor
open Go.RowKit Go.Shelf

theorem Tryd.info5 : (Tryd.prog.info? 5).map (fun i => (i.zero, i.size, i.bytes)) = some (some (.int .u8 0), 1, 1) := by kernel_rfl

/-- A list of bytes that the call owns. -/
def OwnB (w : World) (base : Nat) (v : Value) (l : List UInt8) : Prop := w.ownsRow base 5 1 v l.length (Lib.byteCells l)
theorem OwnB.nil (w : World) (base : Nat) : OwnB w base (.slice none 0 0) [] := World.ownsRow_nil _ _ _ _
theorem OwnB.of {w w' : World} {base n : Nat} {v v' : Value} {xs : List Value} {l : List UInt8}
    (h : Appended base 5 1 v w n xs v' w') (hn : l.length = n) (hx : Lib.byteCells l = xs) : OwnB w' base v' l := by
  subst hn hx
  exact h.own

def BytesPost (w : World) (r : Int) (e : Ending) (w' : World) : Prop :=
  ∃ v, e = .returned v ∧ OwnB w' w.heap.size v (Lib.encodeRune r) ∧ Below w.heap.size w w'

theorem ownB_made (w : World) (l : List UInt8) (cs : Array Value) (n : Nat) (hn : l.length = n) (hm : n ≤ maxLen) (hc : cs.toList = Lib.byteCells l) : OwnB (w.alloc (.cells cs 5)) w.heap.size (.slice (some ⟨w.heap.size, 0, none⟩) n n) l := by
  subst hn
  have hl : cs.toList.length = l.length := by rw [hc]; simp [Lib.byteCells]
  refine ⟨by simp [Lib.byteCells], .inr ⟨w.heap.size, l.length, cs, rfl, Nat.le_refl _, heap_alloc_new _ _, Nat.le_refl _, hm, by rw [Nat.mul_one, ← hl, Array.length_toList], ?_⟩⟩
  rw [List.take_of_length_le (by omega), hc]

theorem encCells (r : Int) : Lib.byteCells (Lib.encodeRune r) = (Lib.encodeRuneZ r).map (Value.int .u8) := Lib.byteCells_encodeRune r

set_option maxHeartbeats 800000 in
theorem ref_bytes (r : Int) (hr : rightB r = true) (w : World) :
    Calls Tryd.prog 21 #[.int .i32 r] w (BytesPost w r) := by
  have hrr := right_range hr
  simp [rightB] at hr
  by_cases h1 : r < 128
  · have hz := Lib.encodeRuneZ_one (r := r) (by omega) (by omega)
    have hm := ownB_made w (Lib.encodeRune r) #[.int .u8 r] 1 (by rw [← Lib.runeCells_length, Lib.runeCells, hz]; rfl) (by simp [maxLen]) (by rw [encCells, hz]; rfl)
    have HM := Lib.hid hm
    clear hm hz
    go_enter Tryd.func21, Tryd.ntmps21
    go_wp2
    go_ret
    exact ⟨_, rfl, HM.out, (Below.refl _ _).alloc (Nat.le_refl _) _⟩
  by_cases h2 : r < 2048
  · have hz := Lib.encodeRuneZ_two (r := r) (by omega) (by omega)
    have hm := ownB_made w (Lib.encodeRune r) #[.int .u8 (192 + r / 64), .int .u8 (128 + r % 64)] 2 (by rw [← Lib.runeCells_length, Lib.runeCells, hz]; rfl) (by simp [maxLen]) (by rw [encCells, hz]; rfl)
    have HM := Lib.hid hm
    clear hm hz
    go_enter Tryd.func21, Tryd.ntmps21
    go_wp2
    go_ret
    exact ⟨_, rfl, HM.out, (Below.refl _ _).alloc (Nat.le_refl _) _⟩
  by_cases h3 : r < 65536
  · have hz := Lib.encodeRuneZ_three (r := r) (by omega)
    have hm := ownB_made w (Lib.encodeRune r) #[.int .u8 (224 + r / 4096), .int .u8 (128 + r / 64 % 64), .int .u8 (128 + r % 64)] 3 (by rw [← Lib.runeCells_length, Lib.runeCells, hz]; rfl) (by simp [maxLen]) (by rw [encCells, hz]; rfl)
    have HM := Lib.hid hm
    clear hm hz
    go_enter Tryd.func21, Tryd.ntmps21
    go_wp2
    go_ret
    exact ⟨_, rfl, HM.out, (Below.refl _ _).alloc (Nat.le_refl _) _⟩
  · have hz := Lib.encodeRuneZ_four (r := r) (by omega) (by omega)
    have hm := ownB_made w (Lib.encodeRune r) #[.int .u8 (240 + r / 262144), .int .u8 (128 + r / 4096 % 64), .int .u8 (128 + r / 64 % 64), .int .u8 (128 + r % 64)] 4 (by rw [← Lib.runeCells_length, Lib.runeCells, hz]; rfl) (by simp [maxLen]) (by rw [encCells, hz]; rfl)
    have HM := Lib.hid hm
    clear hm hz
    go_enter Tryd.func21, Tryd.ntmps21
    go_wp2
    go_ret
    exact ⟨_, rfl, HM.out, (Below.refl _ _).alloc (Nat.le_refl _) _⟩

theorem own_bytes_string {w : World} {base n c : Nat} {A : Option Addr} {l : List UInt8} (h : OwnB w base (.slice A n c) l) (hn : l.length = n) :
    (convert 41 9 (.slice A n c)).run Tryd.prog w = .ok (.string ⟨l.toArray⟩) w := by
  subst hn
  rcases h.2 with ⟨hv, h0⟩ | ⟨g, cap, cur, hv, _, hg, _⟩
  · have := List.eq_nil_of_length_eq_zero h0
    subst this
    rw [hv]
    exact run_convert_bytes_nil (P := Tryd.prog) (w := w) 41 5 Tryd.underlying41 Tryd.underlying5 0 0 _ Tryd.underlying9
  · injection hv with hA _ hc
    subst hA hc
    exact run_convert_bytes_back w 41 9 5 ⟨g, 0, none⟩ c l Tryd.underlying41 Tryd.underlying5 Tryd.underlying9 (fun j hj => World.ownsRow.cells h (g := g) rfl j _ (by simp [Lib.byteCells, List.getElem?_eq_getElem hj]))

def RefEncRel (w : World) (l : List Int) (n : Nat) (v i : Value) (wr : World) : Prop :=
  ∃ k : Nat, k ≤ n ∧ i = .int .i64 k ∧ (l.take k).all rightB = true ∧ OwnB wr w.heap.size v (bytesOf (l.take k)) ∧ Below w.heap.size w wr

theorem bytesOf_succ' (l : List Int) (k : Nat) (r : Int) (h : l[k]? = some r) : bytesOf (l.take (k + 1)) = bytesOf (l.take k) ++ Lib.encodeRune r := by
  obtain ⟨hk, rfl⟩ := List.getElem?_eq_some_iff.1 h
  rw [List.take_succ_eq_append_getElem hk]
  simp only [bytesOf, List.flatMap_append, List.flatMap_cons, List.flatMap_nil, List.append_nil]
theorem byteCells_one (l : List UInt8) : ∀ u ∈ Lib.byteCells l, u.oneCell' = true := by
  intro u hu
  simp only [Lib.byteCells, List.mem_map] at hu
  obtain ⟨k, _, rfl⟩ := hu
  rfl
theorem enc_le (r : Int) : (Lib.encodeRune r).length ≤ 4 := by
  rw [← Lib.runeCells_length]; exact (Lib.runeCells_le r).2

set_option maxHeartbeats 800000 in
theorem ref_encode (A : Option Addr) (n c : Nat) (l : List Int) (w : World) (hn : n ≤ 1099511627776) (hl : RdR w w.heap.size A n l) :
    Calls Tryd.prog 15 #[.slice A n c] w fun e w' => e = .returned (.tuple #[.string (encP l).1, .int .i64 (encP l).2]) ∧ Below w.heap.size w w' := by
  obtain ⟨i0, hi, hz0, hz1, hz2⟩ := info_parts Tryd.info5
  have hlen := hl.len
  have HL := Lib.hid hlen
  clear hlen
  have HR := Lib.hid hl
  clear hl
  go_enter Tryd.func15, Tryd.ntmps15
  go_wp2
  go_loopw [4, 9] (RefEncRel w l n) (fun _ i _ => n - (intOf i).toNat)
  case atStart => exact ⟨0, Nat.zero_le _, rfl, rfl, OwnB.nil _ _, Below.refl _ _⟩
  case round =>
    obtain ⟨k, hk, rfl, hall, hB, hb⟩ := hrel
    have hz := hb.size
    by_cases hlt : k < n
    · obtain ⟨b, off, rfl, hbb, hc0⟩ := HR.out.at hlt
      obtain ⟨r, hr⟩ : ∃ r, l[k]? = some r := ⟨_, List.getElem?_eq_getElem (by rw [HL.out]; exact hlt)⟩
      rw [List.getD, hr, Option.getD_some] at hc0
      have hc1 := (hb.cell (p := ⟨b, off + k, none⟩) hbb).trans hc0
      clear hc0
      have hbl := bytesOf_len (l.take k)
      have htk : (l.take k).length ≤ k := List.length_take_le _ _
      have HB := Lib.hid hB
      have HA := Lib.hid hall
      have HRK := Lib.hid hr
      clear hB hall hr
      cases hrb : rightB r
      · have hno := all_no l k r HRK.out hrb
        have HN := Lib.hid (show encP l = (⟨#[]⟩, 3) by unfold encP; rw [hno]; rfl)
        clear hno
        go_wp2_with (go_at_call 14; refine (ref_right _ _).mono ?_; rintro e w' ⟨rfl, rfl⟩)
        go_ret2
        rw [HN.out]
        exact ⟨rfl, hb⟩
      · have hel := enc_le r
        go_wp2_with (go_at_call 14; refine (ref_right _ _).mono ?_; rintro e w' ⟨rfl, rfl⟩)
        refine (ref_bytes r hrb wr).mono ?_
        rintro e w2 ⟨v2, rfl, hv2, hb2⟩
        have hb3 := hb.trans (hb2.mono hz)
        have hz3 := hb3.size
        have hB2 : OwnB w2 w.heap.size _ (bytesOf (l.take k)) := own_below HB.out hb2
        obtain ⟨A4, c4, rfl, _⟩ := own_form hB2
        obtain ⟨A2, c2, rfl, _⟩ := own_form hv2
        have hrd : Rd w2 w2.heap.size 1 A2 (Lib.encodeRune r).length (Lib.byteCells (Lib.encodeRune r)) := Rd.of_own hv2
        have HRD := Lib.hid hrd
        have HB2 := Lib.hid hB2
        clear hrd hB2 hv2 HB
        go_wp2_with (at_builtin; refine wpList_append_rd _ rfl (.tmp 16) (.tmp 18) 41 rfl w.heap.size 5 i0 _ 1 1 Tryd.underlying41 hi hz0 hz1 hz2 rfl (by decide) _ _ _ rfl HB2.out w2.heap.size A2 (Lib.encodeRune r).length c2 (Lib.byteCells (Lib.encodeRune r)) rfl HRD.out (byteCells_one _) (by simp only [maxLen]; omega) (by omega) (by omega) ?_)
        intro v4 w3 happ
        have hB3 : OwnB w3 w.heap.size v4 (bytesOf (l.take (k + 1))) := OwnB.of happ (by rw [bytesOf_succ' l k r HRK.out]; simp) (by rw [bytesOf_succ' l k r HRK.out, byteCells_append])
        have hb4 : Below w.heap.size w w3 := hb3.trans (happ.below (by omega) HB2.out)
        have hall2 := all_succ_b l k r HRK.out
        rw [HA.out, hrb] at hall2
        clear happ
        go_wp2_with fail
        exact ⟨⟨k + 1, by omega, by go_num, by simpa using hall2, hB3, hb4⟩, by simp [intOf]; omega⟩
    · obtain rfl : k = n := by omega
      rw [List.take_of_length_le (by rw [HL.out]; omega)] at hall hB
      have HE := Lib.hid (show encP l = (⟨(bytesOf l).toArray⟩, 0) by unfold encP; rw [hall]; rfl)
      clear hall
      have HB := Lib.hid hB
      obtain ⟨A4, c4, rfl, _⟩ := own_form hB
      have hcv := own_bytes_string HB.out rfl
      clear hB
      go_wp2_with fail
      go_ret2
      rw [HE.out]
      exact ⟨rfl, hb⟩

end Go.Proofs.YthgkgcdnidkckaaDoor
