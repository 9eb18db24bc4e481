/- strike: what a key makes of what was typed. The walk of live.strike: of a list that the caller owns, and any key, it returns what strikeP tells, owned too. -/
import Derived.Test.YthgkgcdnidkckaaRows
import Derived.Test.YthgkgcdnidkckaaRight
namespace Go.Proofs.Ythgkgcdnidkckaa
open Go.RowKit

/-- What a key makes of a list, and the error. -/
def strikeP (l : List Int) (kind r : Int) : List Int × Int :=
  if kind = 1 then (if rightB r = false then ([], 3) else if l.length = 4000 then ([], 4) else (l ++ [r], 0))
  else if kind = 2 then (if l = [] then ([], 6) else (l.dropLast, 0))
  else if kind = 3 then ([], 0) else ([], 1)

/-- A list of runes that the call owns from block base on. -/
def OwnR (w : World) (base : Nat) (v : Value) (l : List Int) : Prop := w.ownsRow base 21 1 v l.length (runeCells l)
theorem OwnR.nil (w : World) (base : Nat) : OwnR w base (.slice none 0 0) [] := World.ownsRow_nil _ _ _ _
theorem OwnR.pop {w : World} {base : Nat} {g c n : Nat} {l : List Int} (hl : l.length = n + 1) (h : OwnR w base (.slice (some ⟨g, 0, none⟩) (n + 1) c) l) : OwnR w base (.slice (some ⟨g, 0, none⟩) n c) l.dropLast := by
  have hne : l ≠ [] := by intro e; subst e; simp at hl
  have hd : l.dropLast.length = n := by simp [hl]
  unfold OwnR at h ⊢
  rw [hd]
  rw [hl] at h
  refine ownsRow_pop (last := [.int .i32 (l.getLast hne)]) (by simp [runeCells, hl]) ?_
  have e : runeCells l.dropLast ++ [Value.int .i32 (l.getLast hne)] = runeCells l := by
    have e2 := congrArg runeCells (List.dropLast_concat_getLast hne)
    rw [← e2]
    simp only [runeCells, List.map_append, List.map_cons, List.map_nil]
  rw [e]
  exact h

def StrikePost (base : Nat) (w : World) (p : List Int × Int) (e : Ending) (w' : World) : Prop :=
  ∃ v', e = .returned (.tuple #[v', .int .i64 p.2]) ∧ OwnR w' base v' p.1 ∧ Below base w w'

theorem Try.info21 : (Try.prog.info? 21).map (fun i => (i.zero, i.size, i.bytes)) = some (some (.int .i32 0), 1, 4) := by kernel_rfl

theorem hidP {a b : List Int × Int} (h : a = b) : Hid (a = b) := h

set_option maxHeartbeats 800000 in
theorem strike_any (kind r : Int) (v : Value) (l : List Int) (base : Nat) (w : World) (hb : base ≤ w.heap.size) (hown : OwnR w base v l) (hl : l.length ≤ 4000) :
    Calls Try.prog 14 #[v, .agg #[.int .i64 kind, .int .i32 r]] w (StrikePost base w (strikeP l kind r)) := by
  obtain ⟨i0, hi, hz0, hz1, hz2⟩ := info_parts Try.info21
  obtain ⟨A, c, rfl, hc⟩ := own_form hown
  by_cases h1 : kind = 1
  · subst h1
    cases hr : rightB r
    · have HP := hidP (show strikeP l 1 r = ([], 3) by simp [strikeP, hr])
      go_enter Try.func14, Try.ntmps14
      go_wp2_with (go_at_call 13; refine (runes_right _ _).mono ?_; rintro e w' ⟨rfl, rfl⟩)
      go_ret2
      rw [HP.out]
      exact ⟨_, rfl, OwnR.nil _ _, (Below.refl _ _).alloc hb _⟩
    · by_cases h4 : l.length = 4000
      · have HP := hidP (show strikeP l 1 r = ([], 4) by simp [strikeP, hr, h4])
        have hn4 : ((l.length : Int) == 4000) = true := by rw [beq_iff_eq]; omega
        clear h4
        go_enter Try.func14, Try.ntmps14
        go_wp2_with (go_at_call 13; refine (runes_right _ _).mono ?_; rintro e w' ⟨rfl, rfl⟩)
        go_ret2
        rw [HP.out]
        exact ⟨_, rfl, OwnR.nil _ _, (Below.refl _ _).alloc hb _⟩
      · have HP := hidP (show strikeP l 1 r = (l ++ [r], 0) by simp [strikeP, hr, h4])
        have hn4 : ((l.length : Int) == 4000) = false := by rw [beq_eq_false_iff_ne]; omega
        clear h4
        go_enter Try.func14, Try.ntmps14
        go_wp2_with (first | (go_at_call 13; refine (runes_right _ _).mono ?_; rintro e w' ⟨rfl, rfl⟩) | (at_builtin; refine wpList_append_own _ rfl _ _ 25 rfl base 21 i0 (.int .i32 0) 1 4 Try.underlying25 hi hz0 hz1 hz2 rfl (by decide) _ _ _ rfl (World.ownsRow.alloc (World.ownsRow.alloc hown _) _) ⟨w.heap.size + 1, 0, none⟩ 1 1 [.int .i32 r] rfl rfl ?c1 ?c2 ?c3 ?c4 ?c5 ?_))
        case c1 => simpa using cell_one (w.alloc _) (.int .i32 r) _
        case c2 => intro u hu; simp at hu; subst hu; rfl
        case c3 => simp only [maxLen]; omega
        case c4 => omega
        case c5 => simp; omega
        intro v' w1 hown' hgrow _
        go_wp2
        go_ret2
        rw [HP.out]
        refine ⟨_, rfl, ?_, ?_⟩
        · unfold OwnR; simpa [runeCells] using hown'
        · refine (((Below.refl _ _).alloc hb _).alloc (by simp; omega) _).grown hgrow (by simp; omega) ?_
          intro k hk
          exact (World.ownsRow.lt hown k hk).1
  · have h1b : (kind == 1) = false := by rw [beq_eq_false_iff_ne]; exact h1
    by_cases h2 : kind = 2
    · subst h2
      cases l with
      | nil =>
        have HP := hidP (show strikeP [] 2 r = ([], 6) by simp [strikeP])
        go_enter Try.func14, Try.ntmps14
        go_wp2
        go_ret2
        rw [HP.out]
        exact ⟨_, rfl, OwnR.nil _ _, (Below.refl _ _).alloc hb _⟩
      | cons x l =>
        have HP := hidP (show strikeP (x :: l) 2 r = ((x :: l).dropLast, 0) by simp [strikeP])
        obtain ⟨g, c', hv, hc', hbg, hgw⟩ := own_some hown (by simp)
        obtain ⟨n, hn⟩ : ∃ n, (x :: l).length = n + 1 := ⟨_, rfl⟩
        injection hv with hA hn' hcc
        subst hA
        subst hcc
        have hp := OwnR.pop (n := n) hn (by rw [← hn]; exact hown)
        rw [hn] at hown hl hc ⊢
        generalize (x :: l).dropLast = ll at *
        generalize x :: l = lx at *
        have HN := Lib.hid hn
        clear hn hn'
        have hn0 : (((n : Int) + 1) == 0) = false := by rw [beq_eq_false_iff_ne]; omega
        go_enter Try.func14, Try.ntmps14
        go_wp2
        go_ret2
        rw [HP.out]
        exact ⟨_, rfl, World.ownsRow.alloc hp _, (Below.refl _ _).alloc hb _⟩
    · have h2b : (kind == 2) = false := by rw [beq_eq_false_iff_ne]; exact h2
      by_cases h3 : kind = 3
      · subst h3
        have HP := hidP (show strikeP l 3 r = ([], 0) by simp [strikeP])
        go_enter Try.func14, Try.ntmps14
        go_wp2
        go_ret2
        rw [HP.out]
        exact ⟨_, rfl, OwnR.nil _ _, (Below.refl _ _).alloc hb _⟩
      · have HP := hidP (show strikeP l kind r = ([], 1) by simp [strikeP, h1, h2, h3])
        have h3b : (kind == 3) = false := by rw [beq_eq_false_iff_ne]; exact h3
        clear h1 h2 h3
        go_enter Try.func14, Try.ntmps14
        go_wp2
        go_ret2
        rw [HP.out]
        exact ⟨_, rfl, OwnR.nil _ _, (Below.refl _ _).alloc hb _⟩

end Go.Proofs.Ythgkgcdnidkckaa
