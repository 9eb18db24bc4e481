/- strike: what a key makes of what was typed. The walk of live.strike: of a list that the caller owns, and any key, it returns what strikeP tells, owned too. -/
import Derived.Test.YtfmebbnccjaadaaRows
import Derived.Test.YtfmebbnccjaadaaRight
import Derived.Test.YtfmebbnccjaadaaKinds
namespace Go.Proofs.Ytfmebbnccjaadaa
open Go.RowKit

/-- What a key makes of a list, and the error. -/
def strikeP (l : List Int) (kind r : Int) : List Int × Int :=
  if kind = 1 then (if rightB r = false then ([], 3) else if l.length = 4000 then ([], 4) else (l ++ [r], 0))
  else if kind = 2 then (if l = [] then ([], 6) else (l.dropLast, 0))
  else if kind = 3 then ([], 0) else ([], 1)

theorem OwnR.pop {w : World} {base : Nat} {g c n : Nat} {l : List Int} (hl : l.length = n + 1) (h : OwnR w base (.slice (some ⟨g, 0, none⟩) (n + 1) c) l) : OwnR w base (.slice (some ⟨g, 0, none⟩) n c) l.dropLast := by
  have hne : l ≠ [] := by intro e; subst e; simp at hl
  have hd : l.dropLast.length = n := by simp [hl]
  unfold OwnR at h ⊢
  rw [hd]
  rw [hl] at h
  refine ownsRow_pop (last := [.int .i32 (l.getLast hne)]) (by simp [runeCells, hl]) ?_
  have e : runeCells l.dropLast ++ [Value.int .i32 (l.getLast hne)] = runeCells l := by
    have e2 := congrArg runeCells (List.dropLast_concat_getLast hne)
    rw [← e2]
    simp only [runeCells, List.map_append, List.map_cons, List.map_nil]
  rw [e]
  exact h

/-- Only the row that was handed in may have been written. -/
def StrikePost (base : Nat) (v : Value) (w : World) (p : List Int × Int) (e : Ending) (w' : World) : Prop :=
  ∃ v', e = .returned (.tuple #[v', .int .i64 p.2]) ∧ OwnR w' base v' p.1 ∧ w.grownBy w' v.ownBlock ∧ (v'.ownBlock = none ∨ v'.ownBlock = v.ownBlock ∨ ∃ g, v'.ownBlock = some g ∧ w.heap.size ≤ g)
theorem grown_of_below {w w' : World} (row : Option Nat) (hb : Below w.heap.size w w') : w.grownBy w' row := ⟨hb.os, hb.tape, hb.output, hb.size, fun k hk _ => hb.block k hk⟩

theorem hidP {a b : List Int × Int} (h : a = b) : Hid (a = b) := h

set_option maxRecDepth 100000 in
set_option maxHeartbeats 800000 in
theorem strike_any (kind r : Int) (v : Value) (l : List Int) (base : Nat) (w : World) (hb : base ≤ w.heap.size) (hown : OwnR w base v l) (hl : l.length ≤ 4000) :
    Calls Try.prog 65 #[v, .agg #[.int .i64 kind, .int .i32 r]] w (StrikePost base v w (strikeP l kind r)) := by
  obtain ⟨i0, hi, hz0, hz1, hz2⟩ := info_parts Try.info21
  obtain ⟨A, c, rfl, hc⟩ := own_form hown
  by_cases h1 : kind = 1
  · subst h1
    cases hr : rightB r
    · have HP := hidP (show strikeP l 1 r = ([], 3) by simp [strikeP, hr])
      go_enter Try.func65, Try.ntmps65
      go_wp2_with (go_at_call 84; refine (runes_right _ _).mono ?_; rintro e w' ⟨rfl, rfl⟩)
      go_ret2
      rw [HP.out]
      exact ⟨_, rfl, OwnR.nil _ _, grown_of_below _ ((Below.refl _ _).alloc (Nat.le_refl _) _), .inl rfl⟩
    · by_cases h4 : l.length = 4000
      · have HP := hidP (show strikeP l 1 r = ([], 4) by simp [strikeP, hr, h4])
        have hn4 : ((l.length : Int) == 4000) = true := by rw [beq_iff_eq]; omega
        clear h4
        go_enter Try.func65, Try.ntmps65
        go_wp2_with (go_at_call 84; refine (runes_right _ _).mono ?_; rintro e w' ⟨rfl, rfl⟩)
        go_ret2
        rw [HP.out]
        exact ⟨_, rfl, OwnR.nil _ _, grown_of_below _ ((Below.refl _ _).alloc (Nat.le_refl _) _), .inl rfl⟩
      · have HP := hidP (show strikeP l 1 r = (l ++ [r], 0) by simp [strikeP, hr, h4])
        have hn4 : ((l.length : Int) == 4000) = false := by rw [beq_eq_false_iff_ne]; omega
        clear h4
        have HN := Lib.hid (show Rd ((w.alloc (.cells #[.int .i64 1, .int .i32 r] 116)).alloc (.cells #[.int .i32 r] 21)) (w.heap.size + 1 + 1) 1 (some ⟨w.heap.size + 1, 0, none⟩) 1 [.int .i32 r] by
          have := Rd.new (w.alloc (.cells #[.int .i64 1, .int .i32 r] 116)) 21 1 1 [.int .i32 r] rfl
          simpa using this)
        have HO := Lib.hid (World.ownsRow.alloc (World.ownsRow.alloc hown (.cells #[.int .i64 1, .int .i32 r] 116)) (.cells #[.int .i32 r] 21))
        have HRR := Lib.hid hr
        clear hr
        go_enter Try.func65, Try.ntmps65
        go_wp2_with fail
        refine (runes_right _ _).mono ?_
        rintro e w' ⟨rfl, rfl⟩
        rw [HRR.out]
        clear HRR
        go_wp2_with (at_builtin; refine wpList_append_rd _ rfl (.tmp 19) (.tmp 22) 23 rfl base 21 i0 _ 1 4 Try.underlying23 hi hz0 hz1 hz2 rfl (by decide) _ l.length _ rfl HO.out _ (some ⟨w.heap.size + 1, 0, none⟩) 1 1 (runeCells [r]) rfl HN.out (runeCells_one _) (by simp only [maxLen]; omega) (by omega) (by simp; omega) ?_)
        intro v' w1 happ
        have HA := Lib.hid happ
        clear happ
        go_wp2_with fail
        go_ret2
        rw [HP.out]
        refine ⟨_, rfl, ?_, ?_, ?_⟩
        · have := HA.out.own
          unfold OwnR
          rw [runeCells_append, List.length_append]
          exact this
        · exact (grown_of_below _ (((Below.refl _ _).alloc (Nat.le_refl _) _).alloc (by simp) _)).trans HA.out.2.1
        · rcases HA.out.2.2 with e | e
          · exact .inr (.inl e)
          · exact .inr (.inr ⟨_, e, by simp; omega⟩)
  · have h1b : (kind == 1) = false := by rw [beq_eq_false_iff_ne]; exact h1
    by_cases h2 : kind = 2
    · subst h2
      cases l with
      | nil =>
        have HP := hidP (show strikeP [] 2 r = ([], 6) by simp [strikeP])
        go_enter Try.func65, Try.ntmps65
        go_wp2
        go_ret2
        rw [HP.out]
        exact ⟨_, rfl, OwnR.nil _ _, grown_of_below _ ((Below.refl _ _).alloc (Nat.le_refl _) _), .inl rfl⟩
      | cons x l =>
        have HP := hidP (show strikeP (x :: l) 2 r = ((x :: l).dropLast, 0) by simp [strikeP])
        obtain ⟨g, c', hv, hc', hbg, hgw⟩ := own_some hown (by simp)
        obtain ⟨n, hn⟩ : ∃ n, (x :: l).length = n + 1 := ⟨_, rfl⟩
        injection hv with hA hn' hcc
        subst hA
        subst hcc
        have hp := OwnR.pop (n := n) hn (by rw [← hn]; exact hown)
        rw [hn] at hown hl hc ⊢
        generalize (x :: l).dropLast = ll at *
        generalize x :: l = lx at *
        have HN := Lib.hid hn
        clear hn hn'
        have hn0 : (((n : Int) + 1) == 0) = false := by rw [beq_eq_false_iff_ne]; omega
        go_enter Try.func65, Try.ntmps65
        go_wp2
        go_ret2
        rw [HP.out]
        exact ⟨_, rfl, World.ownsRow.alloc hp _, grown_of_below _ ((Below.refl _ _).alloc (Nat.le_refl _) _), .inr (.inl rfl)⟩
    · have h2b : (kind == 2) = false := by rw [beq_eq_false_iff_ne]; exact h2
      by_cases h3 : kind = 3
      · subst h3
        have HP := hidP (show strikeP l 3 r = ([], 0) by simp [strikeP])
        go_enter Try.func65, Try.ntmps65
        go_wp2
        go_ret2
        rw [HP.out]
        exact ⟨_, rfl, OwnR.nil _ _, grown_of_below _ ((Below.refl _ _).alloc (Nat.le_refl _) _), .inl rfl⟩
      · have HP := hidP (show strikeP l kind r = ([], 1) by simp [strikeP, h1, h2, h3])
        have h3b : (kind == 3) = false := by rw [beq_eq_false_iff_ne]; exact h3
        clear h1 h2 h3
        go_enter Try.func65, Try.ntmps65
        go_wp2
        go_ret2
        rw [HP.out]
        exact ⟨_, rfl, OwnR.nil _ _, grown_of_below _ ((Below.refl _ _).alloc (Nat.le_refl _) _), .inl rfl⟩

end Go.Proofs.Ytfmebbnccjaadaa
