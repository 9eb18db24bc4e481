/- A file's scripts: the plain fold over its parts. -/
import Derived.Test.YthcjiainpaebfaaSameScript
namespace Go.Proofs.Ythcjiainpaebfaa
open Go.RowKit

/-- How far a script has come: the filter, the passes that are closed, the rules of the one that is open. -/
structure StD where
  some? : Bool
  only : Spans
  ps : List PassD
  a : List RuleD
def pend : List RuleD → List PassD
  | [] => []
  | x :: r => [⟨⟨#[]⟩, x :: r⟩]
def inverseP (s : ByteArray) : ByteArray := if s = nmUpper then nmLower else if s = nmLower then nmUpper else nmNull
/-- One part more; an error: which one, and where. -/
def stepP (back : Bool) (l : List PartD) (i : Nat) (p : PartD) (s : StD) : Except (Int × Int) StD :=
  if p.kind = 1 then (match lookP (l.take i) p.name with
    | some _ => .error (7, i)
    | none => .ok s)
  else if p.kind = 3 then (if s.some? = true then .error (5, i) else .ok ⟨true, p.set, s.ps, s.a⟩)
  else if p.kind = 4 then .ok ⟨s.some?, s.only, s.ps ++ pend s.a ++ [⟨if back = true then inverseP p.name else p.name, []⟩], []⟩
  else match ruleP' (l.take i) p.left p.right, ruleP' (l.take i) p.right p.left with
    | some x, some y => .ok (if (back = true ∧ p.dir = 1) ∨ (back = false ∧ p.dir = 2) then s else ⟨s.some?, s.only, s.ps, s.a ++ [if back = true then y else x]⟩)
    | _, _ => .error (7, i)
def uptoP (back : Bool) (l : List PartD) : Nat → Except (Int × Int) StD
  | 0 => .ok ⟨false, [], [], []⟩
  | k + 1 => match uptoP back l k with
    | .error e => .error e
    | .ok s => match l[k]? with
      | some p => stepP back l k p s
      | none => .ok s
def noScript : ScriptD := ⟨false, [], []⟩
def readyP (back : Bool) (l : List PartD) : ScriptD × (Int × Int) :=
  if (fileP l).1 ≠ 0 then (noScript, fileP l) else match uptoP back l l.length with
    | .error e => (noScript, e)
    | .ok s => (⟨s.some?, s.only, if back = true then (s.ps ++ pend s.a).reverse else s.ps ++ pend s.a⟩, (0, 0))
theorem uptoP_step {back : Bool} {l : List PartD} {k : Nat} {p : PartD} {s : StD} (h : uptoP back l k = .ok s) (hp : l[k]? = some p) : uptoP back l (k + 1) = stepP back l k p s := by
  rw [uptoP, h]
  simp only [hp]
theorem uptoP_error {back : Bool} {l : List PartD} {k : Nat} {e : Int × Int} (h : uptoP back l k = .error e) : ∀ m, k ≤ m → uptoP back l m = .error e := by
  intro m hm
  induction m with
  | zero =>
    obtain rfl : k = 0 := by omega
    exact h
  | succ m ih =>
    rcases Nat.lt_or_ge m k with h1 | h1
    · obtain rfl : k = m + 1 := by omega
      exact h
    · rw [uptoP, ih h1]
theorem readyP_wrong {back : Bool} {l : List PartD} (h : (fileP l).1 ≠ 0) : readyP back l = (noScript, fileP l) := by
  unfold readyP
  rw [if_pos h]
theorem readyP_error {back : Bool} {l : List PartD} {k : Nat} {e : Int × Int} (h : (fileP l).1 = 0) (hk : k ≤ l.length) (h1 : uptoP back l k = .error e) : readyP back l = (noScript, e) := by
  unfold readyP
  rw [if_neg (by simp [h]), uptoP_error h1 _ hk]
theorem readyP_ok {back : Bool} {l : List PartD} {s : StD} (h : (fileP l).1 = 0) (h1 : uptoP back l l.length = .ok s) : readyP back l = (⟨s.some?, s.only, if back = true then (s.ps ++ pend s.a).reverse else s.ps ++ pend s.a⟩, (0, 0)) := by
  unfold readyP
  rw [if_neg (by simp [h]), h1]
/-- Forth and back go side by side: the filter is the same, and so is what is wrong. -/
theorem upto_both (l : List PartD) : ∀ k, (∃ s t, uptoP false l k = .ok s ∧ uptoP true l k = .ok t ∧ s.some? = t.some? ∧ s.only = t.only) ∨ (∃ e, uptoP false l k = .error e ∧ uptoP true l k = .error e) := by
  intro k
  induction k with
  | zero => exact .inl ⟨_, _, rfl, rfl, rfl, rfl⟩
  | succ k ih =>
    rcases ih with ⟨s, t, h1, h2, h3, h4⟩ | ⟨e, h1, h2⟩
    · cases hp : l[k]? with
      | none => exact .inl ⟨s, t, by rw [uptoP, h1]; simp only [hp], by rw [uptoP, h2]; simp only [hp], h3, h4⟩
      | some p =>
        rw [uptoP_step h1 hp, uptoP_step h2 hp]
        unfold stepP
        by_cases k1 : p.kind = 1
        · rw [if_pos k1, if_pos k1]
          cases lookP (l.take k) p.name with
          | none => exact .inl ⟨s, t, rfl, rfl, h3, h4⟩
          | some x => exact .inr ⟨_, rfl, rfl⟩
        rw [if_neg k1, if_neg k1]
        by_cases k3 : p.kind = 3
        · rw [if_pos k3, if_pos k3, h3]
          by_cases ht : t.some? = true
          · rw [if_pos ht, if_pos ht]; exact .inr ⟨_, rfl, rfl⟩
          · rw [if_neg ht, if_neg ht]; exact .inl ⟨_, _, rfl, rfl, rfl, rfl⟩
        rw [if_neg k3, if_neg k3]
        by_cases k4 : p.kind = 4
        · rw [if_pos k4, if_pos k4]
          exact .inl ⟨_, _, rfl, rfl, h3, h4⟩
        rw [if_neg k4, if_neg k4]
        cases ruleP' (l.take k) p.left p.right with
        | none => exact .inr ⟨_, rfl, rfl⟩
        | some x =>
          cases ruleP' (l.take k) p.right p.left with
          | none => exact .inr ⟨_, rfl, rfl⟩
          | some y =>
            refine .inl ⟨_, _, rfl, rfl, ?_, ?_⟩
            · by_cases d1 : p.dir = 1 <;> by_cases d2 : p.dir = 2 <;> simp [d1, d2, h3]
            · by_cases d1 : p.dir = 1 <;> by_cases d2 : p.dir = 2 <;> simp [d1, d2, h4]
    · exact .inr ⟨e, by rw [uptoP, h1], by rw [uptoP, h2]⟩

/-- How a pass is turned round: the walk of resolve.inverse. -/
theorem syn_inverse (s : ByteArray) (w : World) : Calls Try.prog 26 #[.string s] w fun e w' => e = .returned (.string (inverseP s)) ∧ w = w' := by
  have e1 : nmUpper.toList = [117, 112, 112, 101, 114] := by rw [Lib.toList_data]; rfl
  have e2 : nmLower.toList = [108, 111, 119, 101, 114] := by rw [Lib.toList_data]; rfl
  have q1 : (s.toList == [117, 112, 112, 101, 114]) = decide (s = nmUpper) := by rw [← e1, str_eq]
  have q2 : (s.toList == [108, 111, 119, 101, 114]) = decide (s = nmLower) := by rw [← e2, str_eq]
  clear e1 e2
  by_cases h1 : s = nmUpper
  · have p1 : (s.toList == [117, 112, 112, 101, 114]) = true := by rw [q1]; simpa using h1
    have HI := Lib.hid (show inverseP s = ⟨#[108, 111, 119, 101, 114]⟩ by unfold inverseP; rw [if_pos h1]; rfl)
    clear h1 q1 q2
    go_enter Try.func26, Try.ntmps26
    go_wp2
    go_ret
    rw [HI.out]
    exact ⟨rfl, rfl⟩
  · have p1 : (s.toList == [117, 112, 112, 101, 114]) = false := by rw [q1]; simpa using h1
    by_cases h2 : s = nmLower
    · have p2 : (s.toList == [108, 111, 119, 101, 114]) = true := by rw [q2]; simpa using h2
      have HI := Lib.hid (show inverseP s = ⟨#[117, 112, 112, 101, 114]⟩ by unfold inverseP; rw [if_neg h1, if_pos h2]; rfl)
      clear h1 h2 q1 q2
      go_enter Try.func26, Try.ntmps26
      go_wp2
      go_ret
      rw [HI.out]
      exact ⟨rfl, rfl⟩
    · have p2 : (s.toList == [108, 111, 119, 101, 114]) = false := by rw [q2]; simpa using h2
      have HI := Lib.hid (show inverseP s = ⟨#[110, 117, 108, 108]⟩ by unfold inverseP; rw [if_neg h1, if_neg h2]; rfl)
      clear h1 h2 q1 q2
      go_enter Try.func26, Try.ntmps26
      go_wp2
      go_ret
      rw [HI.out]
      exact ⟨rfl, rfl⟩

end Go.Proofs.Ythcjiainpaebfaa
