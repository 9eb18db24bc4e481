/- SetsynReads: Read tells the set of any text: for any text setsyn.Read and the document's answer tell the same set, or the same fault. Condition: what the law reads is of bulk at most 1048576 (the statement of the second form); Go's own variables are as their text lays them (the card ties them). -/
import Derived.Test.YthnhbcohfoodlaaGreatDoorRows
import Derived.Test.YthnhbcohfoodlaaGreatDoorKinds
import Derived.Lib.LaidIn
import Derived.Lib.LaidTab
import Derived.Stop.LaidErr
import Derived.PinnedBridge
import Derived.Deep.DeepHandedRow
import Derived.Deep.DeepWitnessRowRef
import Derived.ProofKit
import Derived.SizedLaws
import Derived.Test.YthnhbcohfoodlaaGreatDoorOne
import Derived.Test.YthnhbcohfoodlaaGreatDoorTurnsWalk
import Derived.Test.YthnhbcohfoodlaaGreatDoorRefSetM
import Derived.Test.YthnhbcohfoodlaaGreatDoorOpen
import Derived.Test.YthnhbcohfoodlaaGreatDoorCards
import Derived.Test.YthnhbcohfoodlaaGreatDoorTie
namespace Go.Proofs.YthnhbcohfoodlaaGreatDoor

theorem bulk_one {H : Type} (d : DataW H) : 1 ≤ Rows.uptoBulk d := by
  cases d with
  | lit l => cases l <;> simp [Rows.uptoBulk]
  | nil => simp [Rows.uptoBulk]
  | ptr d => simp [Rows.uptoBulk]
  | slice elems spare => simp [Rows.uptoBulk]
  | agg parts => simp [Rows.uptoBulk]
  | iface t d => simp [Rows.uptoBulk]
  | map entries => simp [Rows.uptoBulk]
  | held h => simp [Rows.uptoBulk]
theorem bulk_len {H : Type} (l : List (DataW H)) : l.length ≤ Rows.uptoBulkAll l := by
  induction l with
  | nil => simp
  | cons x r ih => have := bulk_one x; simp only [Rows.uptoBulkAll, List.length_cons]; omega
theorem bulk_slice {H : Type} {d : DataW H} {c : Nat} (h : (d = .nil ∧ c = 0) ∨ ∃ elems spare, d = .slice elems spare ∧ elems.length + spare.length = c) : c ≤ Rows.uptoBulk d := by
  rcases h with ⟨_, rfl⟩ | ⟨elems, spare, rfl, rfl⟩
  · exact Nat.zero_le _
  · have h1 := bulk_len elems
    have h2 := bulk_len spare
    simp only [Rows.uptoBulk]
    omega
theorem bulk_string {H : Type} (s : ByteArray) : s.size ≤ Rows.uptoBulk (DataW.lit (H := H) (.string s.data.toList)) := by
  have e : s.data.toList.length = s.size := by rw [Array.length_toList]; rfl
  simp only [Rows.uptoBulk]
  omega
theorem bulk_bound {H : Type} {l : List (DataW H)} (hk : Rows.uptoSmall H l = true) : Rows.uptoBulkAll l ≤ 1048576 := of_decide_eq_true hk

end Go.Proofs.YthnhbcohfoodlaaGreatDoor

/- What the row's list of variables gives: the cell of math/bits' own table that is read at base 16; a world for the witness in which the three tables and the two errors of package strconv are laid. -/
namespace Go.Proofs.YthnhbcohfoodlaaGreatDoor
open Go.RowKit Go.ChangeShapes Go.WideShapes Go.ChangeAt Go.Shelf

theorem own_knob : ownKnob Tryz.prog.godebug = none := by kernel_rfl
theorem laid_out : laidOutB Tryz.prog = true := by kernel_rfl

def tab32 : List Int := [0, 1, 28, 2, 29, 14, 24, 3, 30, 22, 20, 15, 25, 17, 4, 8, 31, 27, 13, 23, 21, 19, 16, 7, 26, 12, 18, 6, 11, 5, 10, 9]
def tab64 : List Int := [0, 1, 56, 2, 57, 49, 28, 3, 61, 58, 42, 50, 38, 29, 17, 4, 62, 47, 59, 36, 45, 43, 51, 22, 53, 39, 33, 30, 24, 18, 12, 5, 63, 55, 48, 27, 60, 41, 37, 16, 46, 35, 44, 21, 52, 32, 23, 11, 54, 26, 40, 15, 34, 20, 31, 10, 25, 14, 19, 9, 13, 8, 7, 6]
def tab10 : List Int := [1, 10, 100, 1000, 10000, 100000, 1000000, 10000000, 100000000, 1000000000, 10000000000, 100000000000, 1000000000000, 10000000000000, 100000000000000, 1000000000000000, 10000000000000000, 100000000000000000, 1000000000000000000, 10000000000000000000]

def errLaid : List (String × DataW Unit) := [("math/bits.deBruijn32tab", Rows.laid_math_bits_deBruijn32tab), ("math/bits.deBruijn64tab", Rows.laid_math_bits_deBruijn64tab), ("internal/strconv.uint64pow10", Rows.laid_internal_strconv_uint64pow10), ("strconv.ErrRange", Rows.laid_strconv_ErrRange), ("strconv.ErrSyntax", Rows.laid_strconv_ErrSyntax)]

noncomputable def laidWorld (os : Os) : World :=
  let w0 := World.holding Tryz.prog os ⟨#[], #[], []⟩
  let put (h : Array Obj) (g : Nat) (cs : Array Value) : Array Obj := h.modify g fun
    | .cells _ t frozen => .cells cs t frozen
    | o => o
  let h1 := put w0.heap 4 (tab32.map fun z => Value.int .u8 z).toArray
  let h2 := put h1 5 (tab64.map fun z => Value.int .u8 z).toArray
  let h3 := put h2 0 (tab10.map fun z => Value.int .u64 z).toArray
  let h4 := h3.push (.cells #[.string ⟨#[118, 97, 108, 117, 101, 32, 111, 117, 116, 32, 111, 102, 32, 114, 97, 110, 103, 101]⟩] 255)
  let h5 := h4.push (.cells #[.string ⟨#[105, 110, 118, 97, 108, 105, 100, 32, 115, 121, 110, 116, 97, 120]⟩] 255)
  let h6 := put h5 7 #[.iface 253 (.pointer (some ⟨h3.size, 0, none⟩))]
  let h7 := put h6 6 #[.iface 253 (.pointer (some ⟨h3.size + 1, 0, none⟩))]
  { w0 with heap := h7 }

theorem laid_met (os : Os) (args : Array Value) : laidMet Tryz.prog errLaid ((laidWorld os).forCall (fun _ _ => 0) ⟨#[], args, []⟩).memory :=
  (LaidIn.of_run (l := errLaid) ([4, 5, 0, 7, 6] ++ List.range 64) 8 (by kernel_rfl) (by kernel_rfl) (by kernel_rfl) (by kernel_rfl)).met

theorem tab64_eq : Rows.laid_math_bits_deBruijn64tab (H := Unit) = Lib.tabData .u8 tab64 := by kernel_rfl

theorem cell_of_laid {W : World} (h : laidMetH Tryz.prog errLaid W) : W.cell? ⟨5, 15, none⟩ = some (.int .u8 4) := by
  have h1 : laidMet Tryz.prog errLaid W := h
  have h2 := laidMet.tail h1
  rw [tab64_eq] at h2
  have h3 := Lib.tabIs_of_head (g := 5) (t := 248) (e := 5) (n := 64) (by kernel_rfl) (by kernel_rfl) Tryz.underlying248 Tryz.underlying5 (by kernel_rfl) (by kernel_rfl) h2
  exact h3.cell (by kernel_rfl) 15 (by decide)

end Go.Proofs.YthnhbcohfoodlaaGreatDoor

/- WalkT: the walk of scriptref1.Walk: the runes of any text, where they begin, and how many bytes begin none. -/
namespace Go.Proofs.YthnhbcohfoodlaaGreatDoor
open Go.RowKit

def WalkPost (w : World) (s : ByteArray) (e : Ending) (w' : World) : Prop :=
  ∃ v1 v2, e = .returned (.tuple #[v1, v2, .int .i64 (spoilt s 0)]) ∧ OwnR w' w.heap.size v1 (runesOf s 0) ∧ OwnI w' w.heap.size v2 (placesOf s 0 ++ [(s.size : Int)]) ∧ Below w.heap.size w w'
def WalkRel (w : World) (s : ByteArray) (v5 v6 v7 v8 : Value) (wr : World) : Prop :=
  ∃ (p n : Nat) (l q : List Int), p ≤ s.size ∧ v8 = .int .i64 p ∧ v7 = .int .i64 n ∧ OwnR wr w.heap.size v5 l ∧ OwnI wr w.heap.size v6 q ∧ l ++ runesOf s p = runesOf s 0 ∧ q ++ placesOf s p = placesOf s 0 ∧
    n + spoilt s p = spoilt s 0 ∧ l.length ≤ p ∧ q.length ≤ p ∧ Below w.heap.size w wr

set_option maxRecDepth 100000 in
set_option maxHeartbeats 1600000 in
theorem walk_any (s : ByteArray) (w : World) (hs : s.size ≤ 1099511627776) :
    Calls Tryz.prog 40 #[.string s] w (WalkPost w s) := by
  obtain ⟨i0, hi, hz0, hz1, hz2⟩ := info_parts Tryz.info21
  obtain ⟨j0, gi, gz0, gz1, gz2⟩ := info_parts Tryz.info3
  have hle := spoilt_le s s.size 0 (by omega)
  go_enter Tryz.func40, Tryz.ntmps40
  go_wp2_with fail
  go_loopw [5, 6, 7, 8] (WalkRel w s) (fun _ _ _ i _ => s.size - (intOf i).toNat)
  case atStart => exact ⟨0, 0, [], [], Nat.zero_le _, rfl, rfl, OwnR.nil _ _, OwnI.nil _ _, rfl, rfl, by omega, Nat.le_refl _, Nat.le_refl _, Below.refl _ _⟩
  case round =>
    obtain ⟨p, n, l, q, hp, rfl, rfl, hol, hoq, hl, hq, hn, hll, hql, hb⟩ := hrel
    have hz := hb.size
    have hnb : n ≤ 1099511627776 := by omega
    by_cases hlt : p < s.size
    · have hd := dec_bound s p hlt
      have hs1 := runesOf_step s p hlt
      have hs2 := placesOf_step s p hlt
      have hs3 := spoilt_step s p hlt
      have hone : oneP s p = if badAt s p then (0, 0) else (((Utf8.decode s p).1 : Int), ((Utf8.decode s p).2 : Int)) := rfl
      have hbadd : badAt s p = true → (Utf8.decode s p).1 = 65533 ∧ (Utf8.decode s p).2 = 1 := by
        intro h
        unfold badAt at h
        simpa using h
      generalize (Utf8.decode s p).1 = r at *
      generalize (Utf8.decode s p).2 = k at *
      rw [hs1] at hl
      rw [hs2] at hq
      rw [hs3] at hn
      have HL := Lib.hid hl
      have HQ := Lib.hid hq
      have HN := Lib.hid hn
      have HBD := Lib.hid hbadd
      clear hl hq hn hs1 hs2 hs3 hbadd
      cases hbad : badAt s p
      · rw [hbad] at HN
        rw [hbad, if_neg (by simp)] at hone
        have HO := Lib.hid hone
        have hk0 : ((k : Int) == 0) = false := by rw [beq_eq_false_iff_ne]; omega
        clear hone hbad
        go_wp2_with fail
        refine (one_any s p wr hs hlt).mono ?_
        rintro e w1 ⟨rfl, hb1⟩
        rw [HO.out]
        dsimp only
        have hb01 := hb.trans (hb1.mono hz)
        have hz01 := hb01.size
        have hol1 : OwnR w1 w.heap.size _ l := own_below hol hb1
        have hoq1 : OwnI w1 w.heap.size _ q := own_below hoq hb1
        clear hol hoq
        obtain ⟨A6, c6, rfl, _⟩ := own_form hoq1
        have HOL := Lib.hid hol1
        have HOQ := Lib.hid (World.ownsRow.alloc hoq1 (.cells #[.int .i64 p] 3))
        have HNW := Lib.hid (Rd.new w1 3 1 1 [.int .i64 p] rfl)
        clear hol1 hoq1
        go_wp2_with (at_builtin; refine wpList_append_rd _ rfl (.tmp 21) (.tmp 23) 67 rfl w.heap.size 3 j0 _ 1 8 Tryz.underlying67 gi gz0 gz1 gz2 rfl (by decide) _ _ _ rfl HOQ.out (w1.heap.size + 1) (some ⟨w1.heap.size, 0, none⟩) 1 1 [.int .i64 p] rfl HNW.out ?s1 (by simp only [maxLen]; omega) (by omega) (by simp; omega) ?_)
        case s1 => intro u hu; simp at hu; rw [hu]; rfl
        intro v6 w2 happ
        have hoq2 : OwnI w2 w.heap.size v6 (q ++ [(p : Int)]) := OwnI.of happ (by simp) (by simp [intCells])
        have hol2 : OwnR w2 w.heap.size _ l := own_kept_other (World.ownsRow.alloc HOL.out _) HOQ.out (by decide) happ
        have hb2 : Below w.heap.size w w2 := (hb01.alloc (by omega) _).trans (happ.below (by simp; omega) HOQ.out)
        clear happ HOL HOQ
        have hz2' := hb2.size
        obtain ⟨A5, c5, rfl, _⟩ := own_form hol2
        have HOQ2 := Lib.hid hoq2
        have HOL2 := Lib.hid (World.ownsRow.alloc hol2 (.cells #[.int .i32 r] 21))
        have HNW2 := Lib.hid (Rd.new w2 21 1 1 [.int .i32 r] rfl)
        clear hol2 hoq2
        go_wp2_with (at_builtin; refine wpList_append_rd _ rfl (.tmp 29) (.tmp 31) 61 rfl w.heap.size 21 i0 _ 1 4 Tryz.underlying61 hi hz0 hz1 hz2 rfl (by decide) _ _ _ rfl HOL2.out (w2.heap.size + 1) (some ⟨w2.heap.size, 0, none⟩) 1 1 [.int .i32 r] rfl HNW2.out ?s2 (by simp only [maxLen]; omega) (by omega) (by simp; omega) ?_)
        case s2 => intro u hu; simp at hu; rw [hu]; rfl
        intro v5 w3 happ
        have hol3 : OwnR w3 w.heap.size v5 (l ++ [(r : Int)]) := OwnR.of happ (by simp) (by simp [runeCells])
        have hoq3 : OwnI w3 w.heap.size v6 (q ++ [(p : Int)]) := own_kept_other (World.ownsRow.alloc HOQ2.out _) HOL2.out (by decide) happ
        have hb3 : Below w.heap.size w w3 := (hb2.alloc (by omega) _).trans (happ.below (by simp; omega) HOL2.out)
        clear happ
        go_wp2_with fail
        exact ⟨⟨p + k, n, l ++ [(r : Int)], q ++ [(p : Int)], by omega, by go_num, rfl, hol3, hoq3, by rw [List.append_assoc]; exact HL.out, by rw [List.append_assoc]; exact HQ.out, by have := HN.out; simpa using this, by simp; omega, by simp; omega, hb3⟩, by simp [intOf]; omega⟩
      · obtain ⟨rfl, rfl⟩ := HBD.out hbad
        rw [hbad] at HN
        rw [hbad, if_pos rfl] at hone
        have HO := Lib.hid hone
        clear hone hbad
        go_wp2_with fail
        refine (one_any s p wr hs hlt).mono ?_
        rintro e w1 ⟨rfl, hb1⟩
        rw [HO.out]
        dsimp only
        have hb01 := hb.trans (hb1.mono hz)
        have hz01 := hb01.size
        have hol1 : OwnR w1 w.heap.size _ l := own_below hol hb1
        have hoq1 : OwnI w1 w.heap.size _ q := own_below hoq hb1
        clear hol hoq
        obtain ⟨A6, c6, rfl, _⟩ := own_form hoq1
        have HOL := Lib.hid hol1
        have HOQ := Lib.hid (World.ownsRow.alloc hoq1 (.cells #[.int .i64 p] 3))
        have HNW := Lib.hid (Rd.new w1 3 1 1 [.int .i64 p] rfl)
        clear hol1 hoq1
        go_wp2_with (at_builtin; refine wpList_append_rd _ rfl (.tmp 21) (.tmp 23) 67 rfl w.heap.size 3 j0 _ 1 8 Tryz.underlying67 gi gz0 gz1 gz2 rfl (by decide) _ _ _ rfl HOQ.out (w1.heap.size + 1) (some ⟨w1.heap.size, 0, none⟩) 1 1 [.int .i64 p] rfl HNW.out ?s3 (by simp only [maxLen]; omega) (by omega) (by simp; omega) ?_)
        case s3 => intro u hu; simp at hu; rw [hu]; rfl
        intro v6 w2 happ
        have hoq2 : OwnI w2 w.heap.size v6 (q ++ [(p : Int)]) := OwnI.of happ (by simp) (by simp [intCells])
        have hol2 : OwnR w2 w.heap.size _ l := own_kept_other (World.ownsRow.alloc HOL.out _) HOQ.out (by decide) happ
        have hb2 : Below w.heap.size w w2 := (hb01.alloc (by omega) _).trans (happ.below (by simp; omega) HOQ.out)
        clear happ HOL HOQ
        have hz2' := hb2.size
        obtain ⟨A5, c5, rfl, _⟩ := own_form hol2
        have HOQ2 := Lib.hid hoq2
        have HOL2 := Lib.hid (World.ownsRow.alloc hol2 (.cells #[.int .i32 65533] 21))
        have HNW2 := Lib.hid (Rd.new w2 21 1 1 [.int .i32 65533] rfl)
        clear hol2 hoq2
        go_wp2_with (at_builtin; refine wpList_append_rd _ rfl (.tmp 29) (.tmp 31) 61 rfl w.heap.size 21 i0 _ 1 4 Tryz.underlying61 hi hz0 hz1 hz2 rfl (by decide) _ _ _ rfl HOL2.out (w2.heap.size + 1) (some ⟨w2.heap.size, 0, none⟩) 1 1 [.int .i32 65533] rfl HNW2.out ?s4 (by simp only [maxLen]; omega) (by omega) (by simp; omega) ?_)
        case s4 => intro u hu; simp at hu; rw [hu]; rfl
        intro v5 w3 happ
        have hol3 : OwnR w3 w.heap.size v5 (l ++ [65533]) := OwnR.of happ (by simp) (by simp [runeCells])
        have hoq3 : OwnI w3 w.heap.size v6 (q ++ [(p : Int)]) := own_kept_other (World.ownsRow.alloc HOQ2.out _) HOL2.out (by decide) happ
        have hb3 : Below w.heap.size w w3 := (hb2.alloc (by omega) _).trans (happ.below (by simp; omega) HOL2.out)
        clear happ
        go_wp2_with fail
        exact ⟨⟨p + 1, n + 1, l ++ [65533], q ++ [(p : Int)], by omega, by go_num, by go_num, hol3, hoq3, by rw [List.append_assoc]; exact HL.out, by rw [List.append_assoc]; exact HQ.out, by have := HN.out; simp at this; omega, by simp; omega, by simp; omega, hb3⟩, by simp [intOf]; omega⟩
    · rw [runesOf_end s p hlt, List.append_nil] at hl
      rw [placesOf_end s p hlt, List.append_nil] at hq
      rw [spoilt_end s p hlt] at hn
      obtain ⟨A6, c6, rfl, _⟩ := own_form hoq
      have HOL := Lib.hid hol
      have HOQ := Lib.hid (World.ownsRow.alloc hoq (.cells #[.int .i64 s.size] 3))
      have HNW := Lib.hid (Rd.new wr 3 1 1 [.int .i64 s.size] rfl)
      have HL := Lib.hid hl
      have HQ := Lib.hid hq
      have HN := Lib.hid hn
      clear hol hoq hl hq hn
      go_wp2_with (at_builtin; refine wpList_append_rd _ rfl (.tmp 37) (.tmp 40) 67 rfl w.heap.size 3 j0 _ 1 8 Tryz.underlying67 gi gz0 gz1 gz2 rfl (by decide) _ _ _ rfl HOQ.out (wr.heap.size + 1) (some ⟨wr.heap.size, 0, none⟩) 1 1 [.int .i64 s.size] rfl HNW.out ?s5 (by simp only [maxLen]; omega) (by omega) (by simp; omega) ?_)
      case s5 => intro u hu; simp at hu; rw [hu]; rfl
      intro v6 w2 happ
      have hoq2 : OwnI w2 w.heap.size v6 (q ++ [(s.size : Int)]) := OwnI.of happ (by simp) (by simp [intCells])
      have hol2 : OwnR w2 w.heap.size _ l := own_kept_other (World.ownsRow.alloc HOL.out _) HOQ.out (by decide) happ
      have hb2 : Below w.heap.size w w2 := (hb.alloc (by omega) _).trans (happ.below (by simp; omega) HOQ.out)
      clear happ
      rw [HL.out] at hol2
      rw [HQ.out] at hoq2
      go_wp2_with fail
      go_ret3
      unfold WalkPost
      rw [← HN.out]
      exact ⟨_, _, rfl, hol2, hoq2, hb2⟩

end Go.Proofs.YthnhbcohfoodlaaGreatDoor

/- scriptref3.Read: of any text it tells readP of its runes. -/
namespace Go.Proofs.YthnhbcohfoodlaaGreatDoor
open Go.RowKit

/-- The fault's block, and what lies in new memory, while the walk goes on. -/
theorem but_low {w w1 w2 : World} {C B : Nat} (hb : Below B w w1) (h : But w1 C w2) (hB : B ≤ w1.heap.size) (hC : B ≤ C) : Below B w w2 := hb.trans (h.to hB hC)
set_option maxHeartbeats 3200000 in
set_option maxRecDepth 100000 in
theorem ref_read (s : ByteArray) (w : World) (hs : s.size ≤ 1099511627776) :
    Calls Tryz.prog 11 #[.string s] w (ReadPost w (readP (runesOf s 0))) := by
  have HWK := Lib.hid (fun (W : World) => walk_any s W hs)
  have HV := Lib.hid (show ValidL (runesOf s 0) from runesOf_valid s)
  have hLs : (runesOf s 0).length ≤ s.size := by
    unfold runesOf
    rw [List.length_map]
    have := spots_length s s.size 0 (by omega)
    omega
  have HF0 := Lib.hid (Blk.new w 25 #[.int .i64 0, .int .i64 0])
  have HB0 := Lib.hid ((Below.refl w.heap.size w).alloc (Nat.le_refl _) (.cells #[.int .i64 0, .int .i64 0] 25))
  unfold WalkPost at HWK
  generalize runesOf s 0 = L at *
  go_enter Tryz.func11, Tryz.ntmps11
  go_wp2_with fail
  refine (HWK.out _).mono ?_
  rintro e w1 ⟨v1, v2, rfl, ho, _, hb1⟩
  obtain ⟨n, hn⟩ : ∃ n, L.length = n := ⟨_, rfl⟩
  unfold OwnR at ho
  rw [hn] at ho
  obtain ⟨A, c, rfl, hnc⟩ := own_form ho
  have HF1 := Lib.hid (HF0.out.below hb1 HF0.out.lt)
  have HB1 := Lib.hid (HB0.out.trans (hb1.mono HB0.out.size))
  have HZ1 := Lib.hid (show w.heap.size + 1 ≤ w1.heap.size by have := hb1.size; simp at this; exact this)
  have HW2 := Lib.hid (show WkAt (w1.alloc (.cells #[.slice A n c, .int .i64 0, .int .i64 0, .int .i64 0] 72)) w1.heap.size A n c L 0 0 0 from
    ⟨⟨_, Blk.new _ _ _⟩, (RdX.of_own (X := fun b => b < w1.heap.size) ho (fun b hb => (own_lt ho hb).2)).keep (Keeps.alloc _ (fun b hb _ => Nat.ne_of_lt hb)), by omega, hnc⟩)
  have HF2 := Lib.hid (HF1.out.alloc (.cells #[.slice A n c, .int .i64 0, .int .i64 0, .int .i64 0] 72))
  have HB2 := Lib.hid (HB1.out.alloc HB1.out.size (.cells #[.slice A n c, .int .i64 0, .int .i64 0, .int .i64 0] 72))
  have HLN := Lib.hid hn
  clear ho hb1 HF0 HB0
  by_cases hmuch : 4000 < n
  · have HRES := Lib.hid (readP_much (L := L) (by rw [hn]; exact hmuch))
    have f0 := HF1.out.cell 0
    have f1 := HF1.out.frozen 0
    have HFa := Lib.hid (show Blk (w1.setCell ⟨w.heap.size, 0, none⟩ (.int .i64 4)) w.heap.size 25 #[.int .i64 4, .int .i64 0] from HF1.out.put 0 _)
    have f2 := HFa.out.cell 1
    have f3 := HFa.out.frozen 1
    have HFb := Lib.hid (show Blk ((w1.setCell ⟨w.heap.size, 0, none⟩ (.int .i64 4)).setCell ⟨w.heap.size, 1, none⟩ (.int .i64 0)) w.heap.size 25 #[.int .i64 4, .int .i64 0] from HFa.out.put 1 _)
    have HBb := Lib.hid (show Below w.heap.size w ((w1.setCell ⟨w.heap.size, 0, none⟩ (.int .i64 4)).setCell ⟨w.heap.size, 1, none⟩ (.int .i64 0)) from (HB1.out.setCell (p := ⟨w.heap.size, 0, none⟩) (Nat.le_refl _) _).setCell (p := ⟨w.heap.size, 1, none⟩) (Nat.le_refl _) _)
    have r0 := HFb.out.cell 0
    have r1 := HFb.out.cell 1
    clear hn
    go_wp2_with fail
    rw [HRES.out]
    exact bodyPost_ret (v := .tuple #[.slice none 0 0, .agg #[.int .i64 4, .int .i64 0]]) (by simp [results, Tryz.results11, go_sem, r0, r1]) rfl ⟨⟨none, 0, 0, rfl, ⟨rfl, fun h => absurd h (by omega)⟩, Nat.le_refl _⟩, HBb.out⟩
  · have hmu := fun h => hmuch (by rw [← hn]; exact h)
    have HMU := Lib.hid hmu
    clear hmu hn
    obtain ⟨C, hC⟩ : ∃ C, w1.heap.size = C := ⟨_, rfl⟩
    have hwC : w.heap.size < C := by have := HZ1.out; omega
    go_wp2_with fail
    rw [hC] at HW2
    (try rw [hC])
    refine (wk_blanks _ C A n c L 0 0 HW2.out (Nat.zero_le _)).mono ?_
    rintro e w3 ⟨rfl, hc3, hb3⟩
    have HC3 := Lib.hid hc3
    have HF3 := Lib.hid (show Blk w3 w.heap.size 25 #[.int .i64 0, .int .i64 0] from (hb3.2.2.2.2 w.heap.size HF2.out.lt (by omega)).trans HF2.out)
    have HB3 := Lib.hid (but_low HB2.out hb3 HB2.out.size (by omega))
    have hsk : skipP L 0 ≤ n := by rw [← HLN.out]; exact (runFrom_le (Nat.zero_le _)).2
    clear hc3 hb3
    have HST := Lib.hid (show Calls Tryz.prog 42 #[.pointer (some ⟨C, 0, none⟩), .int .i64 1] w3 (RsPost w3 C A n c L 0 (setP' L 20 (skipP L 0))) from wk_set 20 1 w3 C A n c L (skipP L 0) 0 rfl (by decide) HC3.out hsk HV.out (by omega))
    go_wp2_with fail
    refine HST.out.mono ?_
    rintro e w4 ⟨⟨B4, m4, d4, t4, rfl, hr4, hd4, _, hm4⟩, hb4⟩
    have HF4 := Lib.hid (show Blk w4 w.heap.size 25 #[.int .i64 0, .int .i64 0] from (hb4.2.2.2.2 w.heap.size HF3.out.lt (by omega)).trans HF3.out)
    have HB4 := Lib.hid (but_low HB3.out hb4 HB3.out.size (by omega))
    have HR4 := Lib.hid (hr4.lift (X' := fun b => w.heap.size < b ∧ b ≠ C) (fun b h => by have h1 := HC3.out.lt; have h2 : w3.heap.size ≤ b := h; omega))
    clear hr4 hb4
    cases hset : setP' L 20 (skipP L 0) with
    | error e0 =>
      obtain ⟨x, y⟩ := e0
      rw [hset] at hm4
      obtain ⟨hx0, i4, hc4⟩ := hm4
      have HRES := Lib.hid (readP_err HMU.out hset)
      have HX := Lib.hid hx0
      have HC4 := Lib.hid hc4
      clear hset hx0 hc4
      generalize hy : (y : Int) = yy at *
      clear hy
      go_wp2_with fail
      refine (wk_blanks_bad _ C A n c L i4 x yy HC4.out HX.out).mono ?_
      rintro e w5 ⟨rfl, hc5, hb5⟩
      have HC5 := Lib.hid hc5
      have HF5 := Lib.hid (show Blk w5 w.heap.size 25 #[.int .i64 0, .int .i64 0] from (hb5.2.2.2.2 w.heap.size HF4.out.lt (by omega)).trans HF4.out)
      have HB5 := Lib.hid (but_low HB4.out hb5 HB4.out.size (by omega))
      clear hc5 hb5
      go_wp2_with fail
      refine (wk_good_no _ C A n c L i4 x yy HC5.out HX.out).mono ?_
      rintro e w6 ⟨rfl, hw6⟩
      subst hw6
      go_wp2_with fail
      refine (wk_good_no _ C A n c L i4 x yy HC5.out HX.out).mono ?_
      rintro e w7 ⟨rfl, hw7⟩
      subst hw7
      have b2 := HC5.out.c2
      have b3 := HC5.out.c3
      have f0 := HF5.out.cell 0
      have f1 := HF5.out.frozen 0
      have HFa := Lib.hid (show Blk (w7.setCell ⟨w.heap.size, 0, none⟩ (.int .i64 x)) w.heap.size 25 #[.int .i64 x, .int .i64 0] from HF5.out.put 0 _)
      have f2 := HFa.out.cell 1
      have f3 := HFa.out.frozen 1
      have HFb := Lib.hid (show Blk ((w7.setCell ⟨w.heap.size, 0, none⟩ (.int .i64 x)).setCell ⟨w.heap.size, 1, none⟩ (.int .i64 yy)).drew w.heap.size 25 #[.int .i64 x, .int .i64 yy] from HFa.out.put 1 _)
      have HBb := Lib.hid (show Below w.heap.size w ((w7.setCell ⟨w.heap.size, 0, none⟩ (.int .i64 x)).setCell ⟨w.heap.size, 1, none⟩ (.int .i64 yy)).drew from below_drew1 ((HB5.out.setCell (p := ⟨w.heap.size, 0, none⟩) (Nat.le_refl _) _).setCell (p := ⟨w.heap.size, 1, none⟩) (Nat.le_refl _) _))
      have r0 := HFb.out.cell 0
      have r1 := HFb.out.cell 1
      go_upto_region 11 with fail
      refine wp_region_till (S := (fun w' => w'.cell? ⟨C, 2, none⟩ = some (.int .i64 x) ∧ w'.cell? ⟨C, 3, none⟩ = some (.int .i64 yy))) [3] (by kernel_rfl) ⟨b2, b3⟩ (fun hHeld => ?_)
      refine wpTill_pure (i := 0) (oi := ⟨some 48, _, _, _, _, _⟩) (v := ?_) rfl (by kernel_rfl) (by kernel_rfl) (by kernel_rfl) (fun _ _ _ h => h) (Or.inl ⟨by rfl, ?_⟩) ?_
      rotate_left 1
      · intro wq _
        go_simp
        try with_reducible rfl
      try simp only [Act.put, List.setIfInBounds_toArray, List.set_cons_zero, List.set_cons_succ]
      refine wpTill_pure (i := 1) (oi := ⟨some 49, _, _, _, _, _⟩) (v := ?_) rfl (by kernel_rfl) (by kernel_rfl) (by kernel_rfl) (fun _ _ _ h => h) (Or.inl ⟨by rfl, ?_⟩) ?_
      rotate_left 1
      · intro wq _
        go_simp
        try with_reducible rfl
      try simp only [Act.put, List.setIfInBounds_toArray, List.set_cons_zero, List.set_cons_succ]
      refine wpTill_pure (i := 2) (oi := ⟨some 50, _, _, _, _, _⟩) (v := ?_) rfl (by kernel_rfl) (by kernel_rfl) (by kernel_rfl) (fun _ _ _ h => h) (Or.inl ⟨by rfl, ?_⟩) ?_
      rotate_left 1
      · intro wq _
        go_simp
        try with_reducible rfl
      try simp only [Act.put, List.setIfInBounds_toArray, List.set_cons_zero, List.set_cons_succ]
      refine wpTill_take (i := 3) (oi := ⟨some 51, _, _, _, _, _⟩) (v := ?_) rfl (by kernel_rfl) (by kernel_rfl) (by kernel_rfl) (by kernel_rfl) (by kernel_rfl) (fun _ _ _ h => h) (Or.inl ⟨by rfl, ?_⟩) (by assumption) ?_
      rotate_left 1
      · intro wq hSw
        (try dsimp only at hSw)
        go_simp
        try with_reducible rfl
      try simp only [Act.put, List.setIfInBounds_toArray, List.set_cons_zero, List.set_cons_succ]
      refine wpTill_pure (i := 4) (oi := ⟨some 2, _, _, _, _, _⟩) (v := ?_) rfl (by kernel_rfl) (by kernel_rfl) (by kernel_rfl) (fun _ _ _ h => h) (Or.inl ⟨by rfl, ?_⟩) ?_
      rotate_left 1
      · intro wq _
        go_simp
        try with_reducible rfl
      try simp only [Act.put, List.setIfInBounds_toArray, List.set_cons_zero, List.set_cons_succ]
      refine wpTill_late (i := 5) (o := ⟨none, _, _, _, _, _⟩) (by kernel_rfl) rfl (by kernel_rfl) (fun K hK => ?_)
      go_simp
      try dsimp only
      refine hK.out _ _ ?_
      clear hK K
      try simp only [Act.put, List.setIfInBounds_toArray, List.set_cons_zero, List.set_cons_succ]
      refine wpTill_done (by kernel_rfl) ?_ _
      go_simp
      go_wp2_with fail
      rw [HRES.out]
      exact bodyPost_ret (v := .tuple #[.slice none 0 0, .agg #[.int .i64 x, .int .i64 yy]]) (by simp [results, Tryz.results11, go_sem, r0, r1]) rfl ⟨⟨none, 0, 0, rfl, ⟨rfl, fun h => absurd h (by omega)⟩, Nat.le_refl _⟩, HBb.out⟩
    | ok q4 =>
      obtain ⟨t, j⟩ := q4
      rw [hset] at hm4
      obtain ⟨rfl, hjn, hc4⟩ := hm4
      have HSE := Lib.hid hset
      have HC4 := Lib.hid hc4
      clear hset hc4
      go_wp2_with fail
      refine (wk_blanks _ C A n c L j 0 HC4.out hjn).mono ?_
      rintro e w5 ⟨rfl, hc5, hb5⟩
      have HC5 := Lib.hid hc5
      have HF5 := Lib.hid (show Blk w5 w.heap.size 25 #[.int .i64 0, .int .i64 0] from (hb5.2.2.2.2 w.heap.size HF4.out.lt (by omega)).trans HF4.out)
      have HB5 := Lib.hid (but_low HB4.out hb5 HB4.out.size (by omega))
      have HR5 := Lib.hid (HR4.out.keep (hb5.keeps (X' := fun b => w.heap.size < b ∧ b ≠ C) (fun b h => h.2) (fun b h _ => h)))
      clear hc5 hb5
      have d1 := HC5.out.c1
      by_cases hmore : skipP L j < n
      · have HRES := Lib.hid (readP_more HMU.out HSE.out (by rw [HLN.out]; exact hmore))
        have hq : decide (((skipP L j : Nat) : Int) < (n : Int)) = true := decide_eq_true (by omega)
        have HX := Lib.hid (show (2 : Int) ≠ 0 by decide)
        generalize ((skipP L j : Nat) : Int) = yy at *
        go_wp2_with fail
        refine (wk_good_yes _ C A n c L yy 0 HC5.out).mono ?_
        rintro e w6 ⟨rfl, hw6⟩
        subst hw6
        go_wp2_with fail
        refine (wk_stop _ C A n c L yy 0 2 yy HC5.out).mono ?_
        rintro e w7 ⟨rfl, hc7, hb7⟩
        have HC6 := Lib.hid hc7
        have HF6 := Lib.hid (show Blk w7 w.heap.size 25 #[.int .i64 0, .int .i64 0] from (hb7.2.2.2.2 w.heap.size HF5.out.lt (by omega)).trans HF5.out)
        have HB6 := Lib.hid (but_low HB5.out hb7 HB5.out.size (by omega))
        clear hc7 hb7 HC5 HF5 HB5 d1
        have HC5 := Lib.hid HC6.out
        have HF5 := Lib.hid HF6.out
        have HB5 := Lib.hid HB6.out
        clear HC6 HF6 HB6
        go_wp2_with fail
        refine (wk_good_no _ C A n c L yy 2 yy HC5.out HX.out).mono ?_
        rintro e w8 ⟨rfl, hw8⟩
        subst hw8
        obtain ⟨x, hx2⟩ : ∃ x : Int, x = 2 := ⟨_, rfl⟩
        rw [← hx2] at HC5 HX HRES
        clear hx2
        have b2 := HC5.out.c2
        have b3 := HC5.out.c3
        have f0 := HF5.out.cell 0
        have f1 := HF5.out.frozen 0
        have HFa := Lib.hid (show Blk (w8.setCell ⟨w.heap.size, 0, none⟩ (.int .i64 x)) w.heap.size 25 #[.int .i64 x, .int .i64 0] from HF5.out.put 0 _)
        have f2 := HFa.out.cell 1
        have f3 := HFa.out.frozen 1
        have HFb := Lib.hid (show Blk ((w8.setCell ⟨w.heap.size, 0, none⟩ (.int .i64 x)).setCell ⟨w.heap.size, 1, none⟩ (.int .i64 yy)).drew w.heap.size 25 #[.int .i64 x, .int .i64 yy] from HFa.out.put 1 _)
        have HBb := Lib.hid (show Below w.heap.size w ((w8.setCell ⟨w.heap.size, 0, none⟩ (.int .i64 x)).setCell ⟨w.heap.size, 1, none⟩ (.int .i64 yy)).drew from below_drew1 ((HB5.out.setCell (p := ⟨w.heap.size, 0, none⟩) (Nat.le_refl _) _).setCell (p := ⟨w.heap.size, 1, none⟩) (Nat.le_refl _) _))
        have r0 := HFb.out.cell 0
        have r1 := HFb.out.cell 1
        go_upto_region 11 with fail
        refine wp_region_till (S := (fun w' => w'.cell? ⟨C, 2, none⟩ = some (.int .i64 x) ∧ w'.cell? ⟨C, 3, none⟩ = some (.int .i64 yy))) [3] (by kernel_rfl) ⟨b2, b3⟩ (fun hHeld => ?_)
        refine wpTill_pure (i := 0) (oi := ⟨some 48, _, _, _, _, _⟩) (v := ?_) rfl (by kernel_rfl) (by kernel_rfl) (by kernel_rfl) (fun _ _ _ h => h) (Or.inl ⟨by rfl, ?_⟩) ?_
        rotate_left 1
        · intro wq _
          go_simp
          try with_reducible rfl
        try simp only [Act.put, List.setIfInBounds_toArray, List.set_cons_zero, List.set_cons_succ]
        refine wpTill_pure (i := 1) (oi := ⟨some 49, _, _, _, _, _⟩) (v := ?_) rfl (by kernel_rfl) (by kernel_rfl) (by kernel_rfl) (fun _ _ _ h => h) (Or.inl ⟨by rfl, ?_⟩) ?_
        rotate_left 1
        · intro wq _
          go_simp
          try with_reducible rfl
        try simp only [Act.put, List.setIfInBounds_toArray, List.set_cons_zero, List.set_cons_succ]
        refine wpTill_pure (i := 2) (oi := ⟨some 50, _, _, _, _, _⟩) (v := ?_) rfl (by kernel_rfl) (by kernel_rfl) (by kernel_rfl) (fun _ _ _ h => h) (Or.inl ⟨by rfl, ?_⟩) ?_
        rotate_left 1
        · intro wq _
          go_simp
          try with_reducible rfl
        try simp only [Act.put, List.setIfInBounds_toArray, List.set_cons_zero, List.set_cons_succ]
        refine wpTill_take (i := 3) (oi := ⟨some 51, _, _, _, _, _⟩) (v := ?_) rfl (by kernel_rfl) (by kernel_rfl) (by kernel_rfl) (by kernel_rfl) (by kernel_rfl) (fun _ _ _ h => h) (Or.inl ⟨by rfl, ?_⟩) (by assumption) ?_
        rotate_left 1
        · intro wq hSw
          (try dsimp only at hSw)
          go_simp
          try with_reducible rfl
        try simp only [Act.put, List.setIfInBounds_toArray, List.set_cons_zero, List.set_cons_succ]
        refine wpTill_pure (i := 4) (oi := ⟨some 2, _, _, _, _, _⟩) (v := ?_) rfl (by kernel_rfl) (by kernel_rfl) (by kernel_rfl) (fun _ _ _ h => h) (Or.inl ⟨by rfl, ?_⟩) ?_
        rotate_left 1
        · intro wq _
          go_simp
          try with_reducible rfl
        try simp only [Act.put, List.setIfInBounds_toArray, List.set_cons_zero, List.set_cons_succ]
        refine wpTill_late (i := 5) (o := ⟨none, _, _, _, _, _⟩) (by kernel_rfl) rfl (by kernel_rfl) (fun K hK => ?_)
        go_simp
        try dsimp only
        refine hK.out _ _ ?_
        clear hK K
        try simp only [Act.put, List.setIfInBounds_toArray, List.set_cons_zero, List.set_cons_succ]
        refine wpTill_done (by kernel_rfl) ?_ _
        go_simp
        go_wp2_with fail
        rw [HRES.out]
        exact bodyPost_ret (v := .tuple #[.slice none 0 0, .agg #[.int .i64 x, .int .i64 yy]]) (by simp [results, Tryz.results11, go_sem, r0, r1]) rfl ⟨⟨none, 0, 0, rfl, ⟨rfl, fun h => absurd h (by omega)⟩, Nat.le_refl _⟩, HBb.out⟩
      · have HRES := Lib.hid (readP_ok HMU.out HSE.out (by rw [HLN.out]; exact hmore))
        have hq : decide (((skipP L j : Nat) : Int) < (n : Int)) = false := decide_eq_false (by omega)
        generalize ((skipP L j : Nat) : Int) = yy at *
        go_wp2_with fail
        refine (wk_good_yes _ C A n c L yy 0 HC5.out).mono ?_
        rintro e w6 ⟨rfl, hw6⟩
        subst hw6
        go_wp2_with fail
        refine (wk_good_yes _ C A n c L yy 0 HC5.out).mono ?_
        rintro e w7 ⟨rfl, hw7⟩
        subst hw7
        have f0 := HF5.out.cell 0
        have f1 := HF5.out.frozen 0
        have HFa := Lib.hid (show Blk (w7.setCell ⟨w.heap.size, 0, none⟩ (.int .i64 0)) w.heap.size 25 #[.int .i64 0, .int .i64 0] from HF5.out.put 0 _)
        have f2 := HFa.out.cell 1
        have f3 := HFa.out.frozen 1
        have HFb := Lib.hid (show Blk ((w7.setCell ⟨w.heap.size, 0, none⟩ (.int .i64 0)).setCell ⟨w.heap.size, 1, none⟩ (.int .i64 0)) w.heap.size 25 #[.int .i64 0, .int .i64 0] from HFa.out.put 1 _)
        have HBb := Lib.hid (show Below w.heap.size w ((w7.setCell ⟨w.heap.size, 0, none⟩ (.int .i64 0)).setCell ⟨w.heap.size, 1, none⟩ (.int .i64 0)) from (HB5.out.setCell (p := ⟨w.heap.size, 0, none⟩) (Nat.le_refl _) _).setCell (p := ⟨w.heap.size, 1, none⟩) (Nat.le_refl _) _)
        have HRb := Lib.hid (show RdX ((w7.setCell ⟨w.heap.size, 0, none⟩ (.int .i64 0)).setCell ⟨w.heap.size, 1, none⟩ (.int .i64 0)) (fun b => w.heap.size ≤ b) 2 B4 m4 (spanCells t4) from by
          have hk := (But.set w7 w.heap.size 0 (.int .i64 0)).trans (But.set (w7.setCell ⟨w.heap.size, 0, none⟩ (.int .i64 0)) w.heap.size 1 (.int .i64 0))
          exact HR5.out.keep (hk.keeps (fun b h => by have : w.heap.size < b := h.1; omega) (fun b h _ => Nat.le_of_lt h.1)))
        have r0 := HFb.out.cell 0
        have r1 := HFb.out.cell 1
        go_wp2_with fail
        rw [HRES.out]
        exact bodyPost_ret (v := .tuple #[.slice B4 m4 d4, .agg #[.int .i64 0, .int .i64 0]]) (by simp [results, Tryz.results11, go_sem, r0, r1]) rfl ⟨⟨B4, m4, d4, rfl, HRb.out, hd4⟩, HBb.out⟩

end Go.Proofs.YthnhbcohfoodlaaGreatDoor

/- The law SetsynReads: what is read of any text is what the document reads of it. -/
namespace Go.Proofs.YthnhbcohfoodlaaGreatDoor
open Go.RowKit

set_option maxHeartbeats 3200000 in
set_option maxRecDepth 100000 in
theorem setsyn_reads (s : ByteArray) (w : World) (hs : s.size ≤ 1099511627776) :
    Calls Tryz.prog 3 #[.string s] w fun e w' => e = .returned (.bool true) ∧ Below w.heap.size w w' := by
  have HSR := Lib.hid (fun W => syn_read s W hs)
  have HRR := Lib.hid (fun W => ref_read s W hs)
  have hr := readP_right (ValidL.ok (runesOf_valid s))
  generalize readP (runesOf s 0) = R at *
  obtain ⟨u, x, y⟩ := R
  have HR := Lib.hid hr
  clear hr
  dsimp only at HR
  go_enter Tryz.func3, Tryz.ntmps3
  go_wp2_with fail
  refine (HSR.out _).mono ?_
  rintro e w1 ⟨⟨A1, n1, c1, rfl, hx1, _⟩, hb1⟩
  have g3 := (Below.refl w1.heap.size w1).alloc (Nat.le_refl _) (.cells #[.int .i64 x, .int .i64 y] 25)
  have HF1 := Lib.hid (Blk.new w1 25 #[.int .i64 x, .int .i64 y])
  have HB1 := Lib.hid (hb1.trans (g3.mono hb1.size))
  have HX1 := Lib.hid ((Rd.below hx1.of g3).more g3.size)
  clear g3 hx1 hb1 HSR
  go_wp2_with fail
  refine (HRR.out _).mono ?_
  rintro e w2 ⟨⟨A2, n2, c2, rfl, hx2, _⟩, hb2⟩
  have k3 := (Below.refl w2.heap.size w2).alloc (Nat.le_refl _) (.cells #[.int .i64 x, .int .i64 y] 25)
  have k2 := hb2.trans (k3.mono hb2.size)
  have HF2 := Lib.hid (Blk.new w2 25 #[.int .i64 x, .int .i64 y])
  have HB2 := Lib.hid (HB1.out.trans (k2.mono HB1.out.size))
  have HX2 := Lib.hid ((Rd.below hx2.of k3).more k3.size)
  have HX1b := Lib.hid ((Rd.below HX1.out k2).more k2.size)
  have HF1b := Lib.hid (HF1.out.below k2 HF1.out.lt)
  clear k2 k3 hx2 hb2 HX1 HF1 HB1 HRR
  have q0 := HF1b.out.cell 0
  have q1 := HF1b.out.cell 1
  have q2 := HF2.out.cell 0
  have q3 := HF2.out.cell 1
  have hn1 : n1 ≤ 9223372036854775807 := by have h1 := RdS.len HX1b.out; have h2 := HR.out.size; omega
  have HSM := Lib.hid (set_same A1 A2 n1 n2 c1 c2 u _ _ _ hn1 HX1b.out HX2.out)
  go_wp2_with fail
  refine HSM.out.mono ?_
  rintro e w4 ⟨rfl, k, rfl⟩
  go_wp2_with fail
  go_ret
  exact ⟨rfl, HB2.out.trans ⟨rfl, rfl, rfl, Nat.le_refl _, fun _ _ => rfl⟩⟩

end Go.Proofs.YthnhbcohfoodlaaGreatDoor

/- SetsynReads: Read tells the set of any text: for any text setsyn.Read and the document's answer tell the same set, or the same fault. Condition: what the law reads is of bulk at most 1048576 (the statement of the second form); Go's own variables are as their text lays them (the card ties them). -/
namespace Go.Proofs.YthnhbcohfoodlaaGreatDoor
open Go.RowKit Go.ChangeShapes Go.WideShapes Go.ChangeAt Go.Shelf
open Go.ChangeMaps (open_string shut_string)

theorem setsyn_reads_reads (os : Os) {H : Type} (enc : TypeId × Value → H) :
    (Rows.OpenSpec.upto Rows.setsynReadsSpec).preRow enc Tryz.prog Tryz.f3 Rows.setsynReadsUptoRow.domain false Rows.setsynReadsUptoRow.laid ((laidWorld os).forCall (fun _ _ => 0) ⟨#[], #[.string ⟨#[]⟩], []⟩).memory #[.string ⟨#[]⟩] := by
  have hw : (DataW.whole enc Tryz.prog ((laidWorld os).forCall (fun _ _ => 0) ⟨#[], #[.string ⟨#[]⟩], []⟩).memory Tryz.f3.params.toList Rows.setsynReadsSpec.vars false #[.string ⟨#[]⟩].toList 8).map (fun x => (x.1, x.2.1)) =
      some ([.lit (.string [])], []) := by kernel_rfl
  obtain ⟨⟨x1, x2, x3⟩, hx, hx1⟩ := Option.map_eq_some_iff.1 hw
  simp only [Prod.mk.injEq] at hx1
  obtain ⟨rfl, rfl⟩ := hx1
  exact OpenSpec.preRow_of_cond 8 hx (by kernel_rfl) (fun k hk => by cases hk; kernel_rfl) (by kernel_rfl) (laid_met os _)

set_option maxRecDepth 100000 in
set_option maxHeartbeats 2000000 in
theorem setsyn_reads_lifted (os : Os) (started : os.Started) (H : Type) (enc : TypeId × Value → H) (F : Stop.Interp) :
    ReturnsInHanded {} Tryz.checked os 3 .any ((Rows.OpenSpec.upto Rows.setsynReadsSpec).preRow enc Tryz.prog Tryz.f3 Rows.setsynReadsUptoRow.domain false Rows.setsynReadsUptoRow.laid) (((Rows.OpenSpec.upto Rows.setsynReadsSpec).at F).post enc Tryz.prog Tryz.f3 false true false false) := by
  refine returnsInHanded_of_row (C := Tryz.checked) (s := (Rows.OpenSpec.upto Rows.setsynReadsSpec)) own_knob started (by kernel_rfl) Tryz.func3
    (witness_row_atRef (enc := enc) (C := Tryz.checked) false (laidWorld os) #[.string ⟨#[]⟩] rfl (by kernel_rfl) (by kernel_rfl) (by kernel_rfl) (setsyn_reads_reads os enc)) ?_
  intro W base args ds gs before hval hW _ hcond _ hL _ _
  have hk := hcond _ rfl
  have hW' := hW
  obtain ⟨p, q, hA0, hV, rfl, hfz, hnd⟩ := hW
  have hA : DataW.TrodAll enc Tryz.prog W 0 (fun _ => true) true Tryz.f3.params.toList args.toList ds p := hA0
  have hv2 : ∀ (j : Nat) t v, Tryz.f3.params[j]? = some t → args[j]? = some v → Value.okWide Tryz.prog W .any base t v := hval
  rw [Tryz.params3] at hA hv2
  obtain ⟨v0, d0, rfl, rfl, h0⟩ := trodAll_one hA
  obtain ⟨rfl, rfl⟩ := trodVars_none hV
  obtain ⟨s0, rfl, rfl, rfl, hs0⟩ := open_string Tryz.underlying9 (hv2 0 _ v0 rfl rfl) h0
  have hb0 := bulk_string (H := H) s0
  have hbk := bulk_bound hk
  simp only [List.append_nil, Rows.uptoBulkAll] at hbk
  refine (setsyn_reads s0 W (by omega)).mono fun e W' ⟨he, hb⟩ => ⟨_, he, ?_⟩
  exact law_post Tryz.underlying4 rfl rfl laid_out (by kernel_rfl) hW' rfl hb

theorem setsyn_reads_said : Rows.SetsynReadsUptoSaid :=
  OpenClaim.holds_of_cond 3 Tryz.f3 rfl rfl rfl rfl rfl rfl rfl ⟨rfl, rfl, rfl, rfl, rfl⟩ rfl rfl rfl rfl rfl (by kernel_rfl) Tryz.func3 (by kernel_rfl)
    (of_decide_eq_true (by kernel_rfl)) (by unfold Func.isWrapper; first | (rw [if_pos (by decide +kernel)]; kernel_rfl) | (rw [if_neg (by decide +kernel)]; exact ⟨rfl, rfl⟩))
    (fun os started H enc _ F => by rw [OpenClaim.pre_eq_preRow]; exact setsyn_reads_lifted os started H enc F)

theorem setsyn_reads_plain (f : FuncId) (fn : Func) (hf : Tryz.pinned.checked.prog.funcNamed "scriptshift/scriptlaw3.SetsynReads" = some f) (hfn : Tryz.pinned.checked.prog.funcs[f]? = some fn) :
    true = Tryz.pinned.checked.prog.looks [] ∧ ∀ (j : Nat) t, fn.params[j]? = some t → Tryz.pinned.checked.prog.wantsStandIn t = false := by
  obtain rfl : f = 3 := Option.some.inj ((show Tryz.prog.funcNamed "scriptshift/scriptlaw3.SetsynReads" = some 3 by kernel_rfl).symm.trans hf) |>.symm
  obtain rfl : fn = Tryz.f3 := (Option.some.inj (Tryz.func3.symm.trans hfn)).symm
  refine ⟨by kernel_rfl, fun j t ht => ?_⟩
  have h : (Tryz.f3.params.toList.all fun t => !Tryz.prog.wantsStandIn t) = true := by kernel_rfl
  have h2 := List.all_eq_true.1 h t (by simpa using Array.mem_of_getElem? ht)
  have h3 : Tryz.prog.wantsStandIn t = false := by simpa using h2
  exact h3

/-- THE CARD. -/
theorem setsyn_reads_card : Rows.SetsynReadsUptoCardSaid :=
  Claim7.holds_tied_plain_at .later [] _ _ _ _ setsyn_reads_said (fun _ h => by cases h) (by kernel_rfl) (fun _ h => by cases h) setsynReadsUpto_row_tie rfl ⟨rfl, rfl⟩ (by kernel_rfl) rfl setsyn_reads_plain (by kernel_rfl)

end Go.Proofs.YthnhbcohfoodlaaGreatDoor
