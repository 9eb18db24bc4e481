/- What rules make of a text, plain: runGo, playP. The walks of match.Text and run.Limit. -/
import Derived.Test.YtfmebbnccjaadaaMachAll
namespace Go.Proofs.Ytfmebbnccjaadaa
open Go.RowKit

structure OutD where
  text : List Int
  steps : Nat
  put : Nat
def noOut : OutD := ⟨[], 0, 0⟩
/-- The run from a state on: how many steps are left, what is done, what is to come. -/
def runGo (l : List RuleD) : Nat → List Int → List Int → Nat → Nat → OutD × Int
  | _, done, [], s, p => (⟨done, s, p⟩, 0)
  | 0, _, _ :: _, _, _ => (noOut, 9)
  | left + 1, done, z :: rest, s, p =>
    if whichP l (done ++ z :: rest) done.length < 0 then runGo l left (done ++ [z]) rest (s + 1) p
    else match l[(whichP l (done ++ z :: rest) done.length).toNat]? with
      | none => (noOut, 0)
      | some r =>
        if 4000 < done.length + (r.target ++ (z :: rest).drop r.source.length).length then (noOut, 4)
        else runGo l left (done ++ (r.target ++ (z :: rest).drop r.source.length).take r.cursor.toNat) ((r.target ++ (z :: rest).drop r.source.length).drop r.cursor.toNat) (s + 1) (p + 1)
def textP (t : List Int) : Int := if 4000 < t.length then 4 else if badRune t = true then 3 else 0
def okOut (o : OutD × Int) : OutD × (Int × Int) := if o.2 ≠ 0 then (noOut, (o.2, 0)) else (o.1, (0, 0))
theorem runGo_nil (l : List RuleD) (left : Nat) (done : List Int) (s p : Nat) : runGo l left done [] s p = (⟨done, s, p⟩, 0) := by cases left <;> rfl
theorem runGo_zero (l : List RuleD) {Z : List Int} (done : List Int) (s p : Nat) (h : Z ≠ []) : runGo l 0 done Z s p = (noOut, 9) := by
  cases Z with
  | nil => exact absurd rfl h
  | cons z Z => rfl
theorem runGo_none {l : List RuleD} {left : Nat} {done rest : List Int} {z : Int} {s p : Nat} (h : whichP l (done ++ z :: rest) done.length = -1) : runGo l (left + 1) done (z :: rest) s p = runGo l left (done ++ [z]) rest (s + 1) p := by
  rw [runGo, if_pos (by rw [h]; decide)]
theorem runGo_much {l : List RuleD} {left : Nat} {done rest : List Int} {z : Int} {s p k : Nat} {r : RuleD} (h : whichP l (done ++ z :: rest) done.length = (k : Int)) (hk : l[k]? = some r) (hm : 4000 < done.length + (r.target ++ (z :: rest).drop r.source.length).length) :
    runGo l (left + 1) done (z :: rest) s p = (noOut, 4) := by
  rw [runGo, if_neg (by rw [h]; omega), h, Int.toNat_natCast, hk]
  simp only
  rw [if_pos hm]
theorem runGo_rule {l : List RuleD} {left : Nat} {done rest : List Int} {z : Int} {s p k : Nat} {r : RuleD} (h : whichP l (done ++ z :: rest) done.length = (k : Int)) (hk : l[k]? = some r) (hm : ¬ 4000 < done.length + (r.target ++ (z :: rest).drop r.source.length).length) :
    runGo l (left + 1) done (z :: rest) s p = runGo l left (done ++ (r.target ++ (z :: rest).drop r.source.length).take r.cursor.toNat) ((r.target ++ (z :: rest).drop r.source.length).drop r.cursor.toNat) (s + 1) (p + 1) := by
  rw [runGo, if_neg (by rw [h]; omega), h, Int.toNat_natCast, hk]
  simp only
  rw [if_neg hm]
theorem here_fits {r : RuleD} {A Z : List Int} (h : hereP r (A ++ Z) A.length = true) : r.source.length ≤ Z.length := by
  have h1 : allP (A ++ Z) A.length r.source = true := by
    unfold hereP at h
    simp only [Bool.and_eq_true] at h
    exact h.1.1.1.1
  unfold allP at h1
  split at h1
  · cases h1
  · rename_i hn
    rw [not_or, List.length_append] at hn
    omega
def Runes (t : List Int) : Prop := ∀ x ∈ t, 0 ≤ x ∧ x ≤ 1114111
theorem runes_of {t : List Int} (h : badRune t = false) : Runes t := by
  intro x hx
  unfold badRune at h
  have h2 : rightB x = true := by
    have := List.any_eq_false.1 h x hx
    simpa using this
  unfold rightB at h2
  simp at h2
  omega

theorem text_right (x : Int) (w : World) : Calls Try.prog 83 #[.int .i32 x] w fun e w' => e = .returned (.bool (!rightB x)) ∧ w' = w := by
  go_enter Try.func83, Try.ntmps83
  go_wp2_with fail
  refine (runes_right _ _).mono ?_
  rintro e w1 ⟨rfl, rfl⟩
  go_wp2_with fail
  go_ret
  exact ⟨rfl, rfl⟩

set_option maxRecDepth 100000 in
set_option maxHeartbeats 800000 in
theorem ct_index (A : Option Addr) (n c : Nat) (l : List Int) (w : World) (hn : n ≤ 9223372036854775807) (hl : RdR w w.heap.size A n l) :
    Calls Try.prog 100 #[.slice A n c, .func (.func 83) #[] #[]] w fun e w' => (∃ k : Int, e = .returned (.int .i64 k) ∧ decide (0 ≤ k) = badRune l) ∧ Below w.heap.size w w' := by
  have HLEN := Lib.hid hl.len
  have HL := Lib.hid hl
  clear hl
  go_enter Try.func100, Try.ntmps100
  go_wp2_with fail
  go_loopw [8] (CfRel w l n) (fun i _ => n - (intOf i).toNat)
  case atStart => exact ⟨0, Nat.zero_le _, rfl, rfl, Below.refl _ _⟩
  case round =>
    obtain ⟨j, hj, rfl, hgo, hb⟩ := hrel
    by_cases hlt : j < n
    · obtain ⟨x, hx⟩ : ∃ z, l[j]? = some z := ⟨_, List.getElem?_eq_getElem (by rw [HLEN.out]; exact hlt)⟩
      obtain ⟨b, off, rfl, hbb, c0⟩ := HL.out.at hlt
      rw [show l.getD j 0 = x by simp [List.getD, hx]] at c0
      have d0 := (hb.cell (p := ⟨b, off + j, none⟩) hbb).trans c0
      rw [drop_at hx, show badRune (x :: l.drop (j + 1)) = (!rightB x || badRune (l.drop (j + 1))) from rfl] at hgo
      have HG := Lib.hid hgo
      have HX := Lib.hid hx
      clear hgo hx c0
      go_wp2_with fail

      refine (text_right _ _).mono ?_
      rintro e w1 ⟨rfl, rfl⟩
      cases hr : rightB x
      · have HR := Lib.hid hr
        clear hr
        go_wp2_with fail
        go_ret
        refine ⟨⟨_, rfl, ?_⟩, hb⟩
        rw [HG.out, HR.out]
        simp
      · have HR := Lib.hid hr
        clear hr
        go_wp2_with fail
        exact ⟨⟨j + 1, by omega, by go_num, by rw [HG.out, HR.out]; rfl, hb⟩, by simp [intOf]; omega⟩
    · obtain rfl : j = n := by omega
      rw [List.drop_of_length_le (by rw [HLEN.out]; omega)] at hgo
      have HG := Lib.hid (hgo.trans (show badRune [] = false from rfl))
      clear hgo
      go_wp2_with fail
      go_ret
      exact ⟨⟨_, rfl, by rw [HG.out]; rfl⟩, hb⟩
theorem ct_contains (A : Option Addr) (n c : Nat) (l : List Int) (w : World) (hn : n ≤ 9223372036854775807) (hl : RdR w w.heap.size A n l) :
    Calls Try.prog 82 #[.slice A n c, .func (.func 83) #[] #[]] w fun e w' => e = .returned (.bool (badRune l)) ∧ Below w.heap.size w w' := by
  have H := Lib.hid (ct_index A n c l w hn hl)
  clear hl
  go_enter Try.func82, Try.ntmps82
  go_wp2_with fail
  refine H.out.mono ?_
  rintro e w1 ⟨⟨k, rfl, hk⟩, hb⟩
  have HK := Lib.hid hk
  clear hk
  go_wp2_with fail
  go_ret
  refine ⟨?_, hb⟩
  rw [← HK.out]
  rfl


set_option maxHeartbeats 800000 in
theorem match_text (A : Option Addr) (n c : Nat) (t : List Int) (w : World) (hn : n ≤ maxLen) (ht : RdR w w.heap.size A n t) :
    Calls Try.prog 50 #[.slice A n c] w fun e w' => e = .returned (.int .i64 (textP t)) ∧ Below w.heap.size w w' := by
  have hl := ht.len
  simp only [maxLen] at hn
  have HC := Lib.hid (ct_contains A n c t w (by omega) ht)
  clear ht
  by_cases h4 : 4000 < n
  · have HP := Lib.hid (show textP t = 4 by unfold textP; rw [if_pos (by rw [hl]; exact h4)])
    clear hl
    go_enter Try.func50, Try.ntmps50
    go_wp2_with fail
    go_ret
    rw [HP.out]
    exact ⟨rfl, Below.refl _ _⟩
  · have HP := Lib.hid (show textP t = if badRune t = true then 3 else 0 by unfold textP; rw [if_neg (by rw [hl]; exact h4)])
    clear hl
    go_enter Try.func50, Try.ntmps50
    go_wp2_with fail
    refine HC.out.mono ?_
    rintro e w1 ⟨rfl, hb⟩
    have HB := Lib.hid hb
    clear hb
    cases hbr : badRune t
    · have HP2 := Lib.hid (show textP t = 0 by rw [HP.out, hbr]; rfl)
      go_wp2_with fail
      go_ret
      rw [HP2.out]
      exact ⟨rfl, HB.out⟩
    · have HP2 := Lib.hid (show textP t = 3 by rw [HP.out, hbr]; rfl)
      go_wp2_with fail
      go_ret
      rw [HP2.out]
      exact ⟨rfl, HB.out⟩
theorem run_limit (n : Nat) (hn : n ≤ 4000) (w : World) : Calls Try.prog 70 #[.int .i64 n] w fun e w' => e = .returned (.int .i64 (8 * n + 40 : Nat)) ∧ w' = w := by
  have h : ((8 * n + 40 : Nat) : Int) = 8 * (n : Int) + 40 := by omega
  rw [h]
  clear h
  go_enter Try.func70, Try.ntmps70
  go_wp2_with fail
  go_ret
  exact ⟨rfl, rfl⟩

end Go.Proofs.Ytfmebbnccjaadaa
