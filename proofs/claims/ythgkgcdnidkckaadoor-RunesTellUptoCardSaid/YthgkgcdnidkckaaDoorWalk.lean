/- Walk: the walk of scriptref1.Walk: the runes of any text, where they begin, and how many bytes begin none. -/
import Derived.Test.YthgkgcdnidkckaaDoorOne
import Derived.Test.YthgkgcdnidkckaaDoorDecode
namespace Go.Proofs.YthgkgcdnidkckaaDoor
open Go.RowKit

def WalkPost (w : World) (s : ByteArray) (e : Ending) (w' : World) : Prop :=
  ∃ v1 v2, e = .returned (.tuple #[v1, v2, .int .i64 (spoilt s 0)]) ∧ OwnR w' w.heap.size v1 (runesOf s 0) ∧ OwnI w' w.heap.size v2 (placesOf s 0 ++ [(s.size : Int)]) ∧ Below w.heap.size w w'
def WalkRel (w : World) (s : ByteArray) (v5 v6 v7 v8 : Value) (wr : World) : Prop :=
  ∃ (p n : Nat) (l q : List Int), p ≤ s.size ∧ v8 = .int .i64 p ∧ v7 = .int .i64 n ∧ OwnR wr w.heap.size v5 l ∧ OwnI wr w.heap.size v6 q ∧ l ++ runesOf s p = runesOf s 0 ∧ q ++ placesOf s p = placesOf s 0 ∧
    n + spoilt s p = spoilt s 0 ∧ l.length ≤ p ∧ q.length ≤ p ∧ Below w.heap.size w wr

set_option maxRecDepth 100000 in
set_option maxHeartbeats 1600000 in
theorem walk_any (s : ByteArray) (w : World) (hs : s.size ≤ 1099511627776) :
    Calls Tryd.prog 11 #[.string s] w (WalkPost w s) := by
  obtain ⟨i0, hi, hz0, hz1, hz2⟩ := info_parts Tryd.info21
  obtain ⟨j0, gi, gz0, gz1, gz2⟩ := info_parts Tryd.info3
  have hle := spoilt_le s s.size 0 (by omega)
  go_enter Tryd.func11, Tryd.ntmps11
  go_wp2_with fail
  go_loopw [5, 6, 7, 8] (WalkRel w s) (fun _ _ _ i _ => s.size - (intOf i).toNat)
  case atStart => exact ⟨0, 0, [], [], Nat.zero_le _, rfl, rfl, OwnR.nil _ _, OwnI.nil _ _, rfl, rfl, by omega, Nat.le_refl _, Nat.le_refl _, Below.refl _ _⟩
  case round =>
    obtain ⟨p, n, l, q, hp, rfl, rfl, hol, hoq, hl, hq, hn, hll, hql, hb⟩ := hrel
    have hz := hb.size
    have hnb : n ≤ 1099511627776 := by omega
    by_cases hlt : p < s.size
    · have hd := dec_bound s p hlt
      have hs1 := runesOf_step s p hlt
      have hs2 := placesOf_step s p hlt
      have hs3 := spoilt_step s p hlt
      have hone : oneP s p = if badAt s p then (0, 0) else (((Utf8.decode s p).1 : Int), ((Utf8.decode s p).2 : Int)) := rfl
      have hbadd : badAt s p = true → (Utf8.decode s p).1 = 65533 ∧ (Utf8.decode s p).2 = 1 := by
        intro h
        unfold badAt at h
        simpa using h
      generalize (Utf8.decode s p).1 = r at *
      generalize (Utf8.decode s p).2 = k at *
      rw [hs1] at hl
      rw [hs2] at hq
      rw [hs3] at hn
      have HL := Lib.hid hl
      have HQ := Lib.hid hq
      have HN := Lib.hid hn
      have HBD := Lib.hid hbadd
      clear hl hq hn hs1 hs2 hs3 hbadd
      cases hbad : badAt s p
      · rw [hbad] at HN
        rw [hbad, if_neg (by simp)] at hone
        have HO := Lib.hid hone
        have hk0 : ((k : Int) == 0) = false := by rw [beq_eq_false_iff_ne]; omega
        clear hone hbad
        go_wp2_with fail
        refine (one_any s p wr hs hlt).mono ?_
        rintro e w1 ⟨rfl, hb1⟩
        rw [HO.out]
        dsimp only
        have hb01 := hb.trans (hb1.mono hz)
        have hz01 := hb01.size
        have hol1 : OwnR w1 w.heap.size _ l := own_below hol hb1
        have hoq1 : OwnI w1 w.heap.size _ q := own_below hoq hb1
        clear hol hoq
        obtain ⟨A6, c6, rfl, _⟩ := own_form hoq1
        have HOL := Lib.hid hol1
        have HOQ := Lib.hid (World.ownsRow.alloc hoq1 (.cells #[.int .i64 p] 3))
        have HNW := Lib.hid (Rd.new w1 3 1 1 [.int .i64 p] rfl)
        clear hol1 hoq1
        go_wp2_with (at_builtin; refine wpList_append_rd _ rfl (.tmp 21) (.tmp 23) 32 rfl w.heap.size 3 j0 _ 1 8 Tryd.underlying32 gi gz0 gz1 gz2 rfl (by decide) _ _ _ rfl HOQ.out (w1.heap.size + 1) (some ⟨w1.heap.size, 0, none⟩) 1 1 [.int .i64 p] rfl HNW.out ?s1 (by simp only [maxLen]; omega) (by omega) (by simp; omega) ?_)
        case s1 => intro u hu; simp at hu; rw [hu]; rfl
        intro v6 w2 happ
        have hoq2 : OwnI w2 w.heap.size v6 (q ++ [(p : Int)]) := OwnI.of happ (by simp) (by simp [intCells])
        have hol2 : OwnR w2 w.heap.size _ l := own_kept_other (World.ownsRow.alloc HOL.out _) HOQ.out (by decide) happ
        have hb2 : Below w.heap.size w w2 := (hb01.alloc (by omega) _).trans (happ.below (by simp; omega) HOQ.out)
        clear happ HOL HOQ
        have hz2' := hb2.size
        obtain ⟨A5, c5, rfl, _⟩ := own_form hol2
        have HOQ2 := Lib.hid hoq2
        have HOL2 := Lib.hid (World.ownsRow.alloc hol2 (.cells #[.int .i32 r] 21))
        have HNW2 := Lib.hid (Rd.new w2 21 1 1 [.int .i32 r] rfl)
        clear hol2 hoq2
        go_wp2_with (at_builtin; refine wpList_append_rd _ rfl (.tmp 29) (.tmp 31) 25 rfl w.heap.size 21 i0 _ 1 4 Tryd.underlying25 hi hz0 hz1 hz2 rfl (by decide) _ _ _ rfl HOL2.out (w2.heap.size + 1) (some ⟨w2.heap.size, 0, none⟩) 1 1 [.int .i32 r] rfl HNW2.out ?s2 (by simp only [maxLen]; omega) (by omega) (by simp; omega) ?_)
        case s2 => intro u hu; simp at hu; rw [hu]; rfl
        intro v5 w3 happ
        have hol3 : OwnR w3 w.heap.size v5 (l ++ [(r : Int)]) := OwnR.of happ (by simp) (by simp [runeCells])
        have hoq3 : OwnI w3 w.heap.size v6 (q ++ [(p : Int)]) := own_kept_other (World.ownsRow.alloc HOQ2.out _) HOL2.out (by decide) happ
        have hb3 : Below w.heap.size w w3 := (hb2.alloc (by omega) _).trans (happ.below (by simp; omega) HOL2.out)
        clear happ
        go_wp2_with fail
        exact ⟨⟨p + k, n, l ++ [(r : Int)], q ++ [(p : Int)], by omega, by go_num, rfl, hol3, hoq3, by rw [List.append_assoc]; exact HL.out, by rw [List.append_assoc]; exact HQ.out, by have := HN.out; simpa using this, by simp; omega, by simp; omega, hb3⟩, by simp [intOf]; omega⟩
      · obtain ⟨rfl, rfl⟩ := HBD.out hbad
        rw [hbad] at HN
        rw [hbad, if_pos rfl] at hone
        have HO := Lib.hid hone
        clear hone hbad
        go_wp2_with fail
        refine (one_any s p wr hs hlt).mono ?_
        rintro e w1 ⟨rfl, hb1⟩
        rw [HO.out]
        dsimp only
        have hb01 := hb.trans (hb1.mono hz)
        have hz01 := hb01.size
        have hol1 : OwnR w1 w.heap.size _ l := own_below hol hb1
        have hoq1 : OwnI w1 w.heap.size _ q := own_below hoq hb1
        clear hol hoq
        obtain ⟨A6, c6, rfl, _⟩ := own_form hoq1
        have HOL := Lib.hid hol1
        have HOQ := Lib.hid (World.ownsRow.alloc hoq1 (.cells #[.int .i64 p] 3))
        have HNW := Lib.hid (Rd.new w1 3 1 1 [.int .i64 p] rfl)
        clear hol1 hoq1
        go_wp2_with (at_builtin; refine wpList_append_rd _ rfl (.tmp 21) (.tmp 23) 32 rfl w.heap.size 3 j0 _ 1 8 Tryd.underlying32 gi gz0 gz1 gz2 rfl (by decide) _ _ _ rfl HOQ.out (w1.heap.size + 1) (some ⟨w1.heap.size, 0, none⟩) 1 1 [.int .i64 p] rfl HNW.out ?s3 (by simp only [maxLen]; omega) (by omega) (by simp; omega) ?_)
        case s3 => intro u hu; simp at hu; rw [hu]; rfl
        intro v6 w2 happ
        have hoq2 : OwnI w2 w.heap.size v6 (q ++ [(p : Int)]) := OwnI.of happ (by simp) (by simp [intCells])
        have hol2 : OwnR w2 w.heap.size _ l := own_kept_other (World.ownsRow.alloc HOL.out _) HOQ.out (by decide) happ
        have hb2 : Below w.heap.size w w2 := (hb01.alloc (by omega) _).trans (happ.below (by simp; omega) HOQ.out)
        clear happ HOL HOQ
        have hz2' := hb2.size
        obtain ⟨A5, c5, rfl, _⟩ := own_form hol2
        have HOQ2 := Lib.hid hoq2
        have HOL2 := Lib.hid (World.ownsRow.alloc hol2 (.cells #[.int .i32 65533] 21))
        have HNW2 := Lib.hid (Rd.new w2 21 1 1 [.int .i32 65533] rfl)
        clear hol2 hoq2
        go_wp2_with (at_builtin; refine wpList_append_rd _ rfl (.tmp 29) (.tmp 31) 25 rfl w.heap.size 21 i0 _ 1 4 Tryd.underlying25 hi hz0 hz1 hz2 rfl (by decide) _ _ _ rfl HOL2.out (w2.heap.size + 1) (some ⟨w2.heap.size, 0, none⟩) 1 1 [.int .i32 65533] rfl HNW2.out ?s4 (by simp only [maxLen]; omega) (by omega) (by simp; omega) ?_)
        case s4 => intro u hu; simp at hu; rw [hu]; rfl
        intro v5 w3 happ
        have hol3 : OwnR w3 w.heap.size v5 (l ++ [65533]) := OwnR.of happ (by simp) (by simp [runeCells])
        have hoq3 : OwnI w3 w.heap.size v6 (q ++ [(p : Int)]) := own_kept_other (World.ownsRow.alloc HOQ2.out _) HOL2.out (by decide) happ
        have hb3 : Below w.heap.size w w3 := (hb2.alloc (by omega) _).trans (happ.below (by simp; omega) HOL2.out)
        clear happ
        go_wp2_with fail
        exact ⟨⟨p + 1, n + 1, l ++ [65533], q ++ [(p : Int)], by omega, by go_num, by go_num, hol3, hoq3, by rw [List.append_assoc]; exact HL.out, by rw [List.append_assoc]; exact HQ.out, by have := HN.out; simp at this; omega, by simp; omega, by simp; omega, hb3⟩, by simp [intOf]; omega⟩
    · rw [runesOf_end s p hlt, List.append_nil] at hl
      rw [placesOf_end s p hlt, List.append_nil] at hq
      rw [spoilt_end s p hlt] at hn
      obtain ⟨A6, c6, rfl, _⟩ := own_form hoq
      have HOL := Lib.hid hol
      have HOQ := Lib.hid (World.ownsRow.alloc hoq (.cells #[.int .i64 s.size] 3))
      have HNW := Lib.hid (Rd.new wr 3 1 1 [.int .i64 s.size] rfl)
      have HL := Lib.hid hl
      have HQ := Lib.hid hq
      have HN := Lib.hid hn
      clear hol hoq hl hq hn
      go_wp2_with (at_builtin; refine wpList_append_rd _ rfl (.tmp 37) (.tmp 40) 32 rfl w.heap.size 3 j0 _ 1 8 Tryd.underlying32 gi gz0 gz1 gz2 rfl (by decide) _ _ _ rfl HOQ.out (wr.heap.size + 1) (some ⟨wr.heap.size, 0, none⟩) 1 1 [.int .i64 s.size] rfl HNW.out ?s5 (by simp only [maxLen]; omega) (by omega) (by simp; omega) ?_)
      case s5 => intro u hu; simp at hu; rw [hu]; rfl
      intro v6 w2 happ
      have hoq2 : OwnI w2 w.heap.size v6 (q ++ [(s.size : Int)]) := OwnI.of happ (by simp) (by simp [intCells])
      have hol2 : OwnR w2 w.heap.size _ l := own_kept_other (World.ownsRow.alloc HOL.out _) HOQ.out (by decide) happ
      have hb2 : Below w.heap.size w w2 := (hb.alloc (by omega) _).trans (happ.below (by simp; omega) HOQ.out)
      clear happ
      rw [HL.out] at hol2
      rw [HQ.out] at hoq2
      go_wp2_with fail
      go_ret3
      unfold WalkPost
      rw [← HN.out]
      exact ⟨_, _, rfl, hol2, hoq2, hb2⟩

end Go.Proofs.YthgkgcdnidkckaaDoor
