/- Decode -/
import Derived.Test.YthnhbcohfoodlaaGreatDoorZk1
import Derived.Test.YthnhbcohfoodlaaGreatDoorZk11
namespace Go.Proofs.YthnhbcohfoodlaaGreatDoor
open Go.RowKit
theorem Tryz.info21 : (Tryz.prog.info? 21).map (fun i => (i.zero, i.size, i.bytes)) = some (some (.int .i32 0), 1, 4) := by kernel_rfl
def DecPost (w : World) (s : ByteArray) (e : Ending) (w' : World) : Prop :=
  ∃ v, e = .returned v ∧ OwnR w' w.heap.size v (runesOf s 0) ∧ Below w.heap.size w w'
def DecRel (w : World) (s : ByteArray) (v : Value) (wr : World) : Prop :=
  ∃ (p : Nat) (l : List Int), p ≤ s.size ∧ wr.heap[w.heap.size]? = some (.stringIter s p) ∧ OwnR wr (w.heap.size + 1) v l ∧ l ++ runesOf s p = runesOf s 0 ∧ l.length ≤ p ∧ Below w.heap.size w wr
theorem iter_kept {w : World} {base k p : Nat} {e : TypeId} {sz n : Nat} {v v' : Value} {w' : World} {xs : List Value} {s : ByteArray} (hit : w.heap[k]? = some (.stringIter s p)) (hk : k < base)
    (ho : ∃ m ys, w.ownsRow base e sz v m ys) (h : Appended base e sz v w n xs v' w') : w'.heap[k]? = some (.stringIter s p) := by
  obtain ⟨m, ys, ho⟩ := ho
  rw [h.2.1.block k (Array.getElem?_eq_some_iff.1 hit).1 (fun e => by have := (World.ownsRow.lt ho k e.symm).1; omega)]
  exact hit
set_option maxHeartbeats 400000 in
theorem decode_any (s : ByteArray) (w : World) (hs : s.size ≤ 1099511627776) :
    Calls Tryz.prog 36 #[.string s] w (DecPost w s) := by
  obtain ⟨i0, hi, hz0, hz1, hz2⟩ := info_parts Tryz.info21
  go_enter Tryz.func36, Tryz.ntmps36
  go_wp2
  go_loopw [3] (DecRel w s) (fun _ wr => s.size - wr.iterPos w.heap.size)
  case atStart => exact ⟨0, [], Nat.zero_le _, World.iter_heap _ _ _, OwnR.nil _ _, rfl, Nat.le_refl _, (Below.refl _ _).alloc (Nat.le_refl _) _⟩
  case round =>
    obtain ⟨p, l, hp, hit, hown, hl, hll, hbel⟩ := hrel
    have hz := hbel.size
    have hit2 := iterPos_of hit
    by_cases hlt : p < s.size
    · have hnext := fun ty => Lib.run_next_any_at (P := Tryz.prog) wr w.heap.size s p ty hit hlt
      have hd := dec_bound s p hlt
      have hstep := runesOf_step s p hlt
      have hit1 := Lib.iterAt_heap wr w.heap.size s p (p + (Utf8.decode s p).2) hit
      have hb1 := Lib.below_iterAt hbel (Nat.le_refl _) s (p + (Utf8.decode s p).2)
      have hown1 : OwnR (wr.iterAt w.heap.size s (p + (Utf8.decode s p).2)) (w.heap.size + 1) _ l := ownsRow_iterAt hown (Nat.lt_succ_self _) s _
      generalize wr.iterAt w.heap.size s (p + (Utf8.decode s p).2) = W1 at *
      generalize hr : ((Utf8.decode s p).1 : Int) = r at *
      generalize (Utf8.decode s p).2 = k at *
      rw [hstep] at hl
      have hz1' := hb1.size
      obtain ⟨A3, c3, rfl, hc3⟩ := own_form hown1
      have HIT := Lib.hid hit1
      have HIT2 := Lib.hid hit2
      have HL := Lib.hid hl
      have HN := Lib.hid (Rd.new W1 21 1 1 [.int .i32 r] rfl)
      have HO := Lib.hid (World.ownsRow.alloc hown1 (.cells #[.int .i32 r] 21))
      clear hit hit1 hit2 hl hown hown1 hstep hr
      go_wp2_with (at_builtin; refine wpList_append_rd _ rfl (.tmp 11) (.tmp 13) 61 rfl (w.heap.size + 1) 21 i0 _ 1 4 Tryz.underlying61 hi hz0 hz1 hz2 rfl (by decide) _ _ _ rfl HO.out (W1.heap.size + 1) (some ⟨W1.heap.size, 0, none⟩) 1 1 [.int .i32 r] rfl HN.out ?s1 (by simp only [maxLen]; omega) (by omega) (by simp; omega) ?_)
      case s1 => intro u hu; simp at hu; rw [hu]; rfl
      intro v' w2 happ
      have hit3 := iter_kept ((Below.heap_alloc W1 (.cells #[.int .i32 r] 21) w.heap.size (Array.getElem?_eq_some_iff.1 HIT.out).1).trans HIT.out) (Nat.lt_succ_self _) ⟨_, _, HO.out⟩ happ
      have hown2 : OwnR w2 (w.heap.size + 1) v' (l ++ [r]) := OwnR.of happ (by simp) (by simp [runeCells])
      have hb2 : Below w.heap.size w w2 := (hb1.alloc (by omega) _).trans ((happ.below (by simp; omega) HO.out).mono (by omega))
      clear happ
      have hp3 := iterPos_of hit3
      have HI3 := Lib.hid hit3
      clear hit3
      have HP3 := Lib.hid hp3
      clear hp3
      go_wp2
      exact ⟨⟨p + k, l ++ [r], by omega, HI3.out, hown2, by rw [List.append_assoc]; exact HL.out, by simp; omega, hb2⟩, by rw [HP3.out, HIT2.out]; omega⟩
    · have hnext := fun ty => Lib.run_next_end_at (P := Tryz.prog) wr w.heap.size s p ty hit hlt
      rw [runesOf_end s p hlt, List.append_nil] at hl
      subst hl
      clear hit hit2
      go_wp2
      go_ret
      exact ⟨_, rfl, own_mono hown (by omega), hbel⟩
end Go.Proofs.YthnhbcohfoodlaaGreatDoor
