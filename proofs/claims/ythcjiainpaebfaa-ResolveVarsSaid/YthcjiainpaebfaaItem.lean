/- What is wrong with an item: the walks of rulesyn.item and of scriptref5.Item: both tell itemP. -/
import Derived.Test.YthcjiainpaebfaaParts
import Derived.Test.YthcjiainpaebfaaNamed
import Derived.Test.YthcjiainpaebfaaRight
import Derived.Test.YthcjiainpaebfaaSpanRef
namespace Go.Proofs.Ythcjiainpaebfaa
open Go.RowKit

def itemP (a : ItemD) : Int :=
  if a.kind = 1 then (if rightB a.rune = true then 0 else 3) else if a.kind = 2 then wrongP a.set else if a.kind = 3 then (if namedP a.name = true then 0 else 7) else 1
def itemV (a : ItemD) (A : Option Addr) (n c : Nat) : Value := .agg #[.int .i64 a.kind, .int .i32 a.rune, .slice A n c, .string a.name]

theorem rds_alloc {w : World} {A : Option Addr} {n : Nat} {l : Spans} (h : RdS w w.heap.size A n l) (o : Obj) : RdS (w.alloc o) (w.alloc o).heap.size A n l :=
  weak_of ((Below.refl _ _).alloc (Nat.le_refl _) o) (by simp) _ _ _ _ h

set_option maxRecDepth 100000 in
set_option maxHeartbeats 800000 in
theorem rulesyn_item (a : ItemD) (A : Option Addr) (n c : Nat) (w : World) (hn : n ≤ 9223372036854775807) (hs : RdS w w.heap.size A n a.set) :
    Calls Try.prog 52 #[itemV a A n c] w fun e w' => e = .returned (.int .i64 (itemP a)) ∧ Below w.heap.size w w' := by
  obtain ⟨kind, rune, set, name⟩ := a
  have hbA : ∀ o, Below w.heap.size w (w.alloc o) := fun o => (Below.refl _ _).alloc (Nat.le_refl _) o
  have HS := Lib.hid (rds_alloc hs)
  have HB := Lib.hid hbA
  clear hs hbA
  unfold itemV itemP
  dsimp only
  by_cases h1 : kind = 1
  · subst h1
    rw [if_pos rfl]
    cases hr : rightB rune
    all_goals
      go_enter Try.func52, Try.ntmps52
      go_wp2_with (go_at_call 56; refine (runes_right _ _).mono ?_; rintro e w' ⟨rfl, rfl⟩; rw [hr])
      go_ret
      exact ⟨rfl, HB.out _⟩
  by_cases h2 : kind = 2
  · subst h2
    rw [if_neg h1, if_pos rfl]
    go_enter Try.func52, Try.ntmps52
    go_wp2_with fail
    refine (sets_wrong A n c set _ hn (HS.out _)).mono ?_
    rintro e w' ⟨rfl, hb⟩
    go_wp2_with fail
    go_ret
    exact ⟨rfl, (HB.out _).trans (hb.mono (by simp))⟩
  have e1 : (kind == 1) = false := by simpa using h1
  have e2 : (kind == 2) = false := by simpa using h2
  by_cases h3 : kind = 3
  · subst h3
    rw [if_neg h1, if_neg h2, if_pos rfl]
    cases hr : namedP name
    all_goals
      go_enter Try.func52, Try.ntmps52
      go_wp2_with (go_at_call 42; refine (rulesyn_named _ _).mono ?_; rintro e w' ⟨rfl, rfl⟩; rw [hr])
      go_ret
      exact ⟨rfl, HB.out _⟩
  have e3 : (kind == 3) = false := by simpa using h3
  rw [if_neg h1, if_neg h2, if_neg h3]
  clear h1 h2 h3
  go_enter Try.func52, Try.ntmps52
  go_wp2_with fail
  go_ret
  exact ⟨rfl, HB.out _⟩

set_option maxRecDepth 100000 in
set_option maxHeartbeats 800000 in
theorem ref_item (a : ItemD) (A : Option Addr) (n c : Nat) (w : World) (hn : n ≤ 9223372036854775807) (hm : a.name.size ≤ 9223372036854775807) (hs : RdS w w.heap.size A n a.set) :
    Calls Try.prog 55 #[itemV a A n c] w fun e w' => e = .returned (.int .i64 (itemP a)) ∧ Below w.heap.size w w' := by
  obtain ⟨kind, rune, set, name⟩ := a
  have hbA : ∀ o, Below w.heap.size w (w.alloc o) := fun o => (Below.refl _ _).alloc (Nat.le_refl _) o
  have HS := Lib.hid (rds_alloc hs)
  have HB := Lib.hid hbA
  clear hs hbA
  unfold itemV itemP
  dsimp only at hm ⊢
  by_cases h1 : kind = 1
  · subst h1
    rw [if_pos rfl]
    cases hr : rightB rune
    all_goals
      go_enter Try.func55, Try.ntmps55
      go_wp2_with (go_at_call 58; refine (ref_right _ _).mono ?_; rintro e w' ⟨rfl, rfl⟩; rw [hr])
      go_ret
      exact ⟨rfl, HB.out _⟩
  have e1 : (kind == 1) = false := by simpa using h1
  by_cases h2 : kind = 2
  · subst h2
    rw [if_neg h1, if_pos rfl]
    go_enter Try.func55, Try.ntmps55
    go_wp2_with fail
    refine (ref2_wrong A n c set _ hn (HS.out _)).mono ?_
    rintro e w' ⟨rfl, hb⟩
    go_wp2_with fail
    go_ret
    exact ⟨rfl, (HB.out _).trans (hb.mono (by simp))⟩
  have e2 : (kind == 2) = false := by simpa using h2
  by_cases h3 : kind = 3
  · subst h3
    rw [if_neg h1, if_neg h2, if_pos rfl]
    cases hr : namedP name
    all_goals
      go_enter Try.func55, Try.ntmps55
      go_wp2_with fail
      refine (ref_named name hm _).mono ?_
      rintro e w' ⟨rfl, hb⟩
      rw [hr]
      have hbb := (HB.out _).trans (hb.mono (by simp))
      have e0 : w'.cell? ⟨w.heap.size, 0, none⟩ = some (.int .i64 3) := (Blk.below (Blk.new w 43 #[.int .i64 3, .int .i32 rune, .slice A n c, .string name]) hb (by simp)).cell 0
      have HBB := Lib.hid hbb
      clear hbb hb hr
      go_wp2_with fail
      go_ret
      exact ⟨rfl, HBB.out⟩
  have e3 : (kind == 3) = false := by simpa using h3
  rw [if_neg h1, if_neg h2, if_neg h3]
  rcases (show kind < 1 ∨ 3 < kind by omega) with h4 | h4
  all_goals
    clear h1 h2 h3
    go_enter Try.func55, Try.ntmps55
    go_wp2_with fail
    go_ret
    exact ⟨rfl, HB.out _⟩

end Go.Proofs.Ythcjiainpaebfaa
