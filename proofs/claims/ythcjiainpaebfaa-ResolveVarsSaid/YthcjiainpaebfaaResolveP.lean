/- Rules of a file that is resolved: names by their sets. Plain. -/
import Derived.Test.YthcjiainpaebfaaFoot
import Derived.Lib.Strings
namespace Go.Proofs.Ythcjiainpaebfaa
open Go.RowKit

/-- The set of a name: of the first part that is a variable of that name. -/
def lookP : List PartD → ByteArray → Option Spans
  | [], _ => none
  | p :: r, s => if p.kind = 1 ∧ p.name = s then some p.set else lookP r s
def setP (l : List PartD) (a : ItemD) : Option Spans := if a.kind = 1 then some [(a.rune, a.rune)] else if a.kind = 2 then some a.set else lookP l a.name
def setsP (l : List PartD) : List ItemD → Option (List Spans)
  | [] => some []
  | a :: r => match setP l a with
    | none => none
    | some s => (setsP l r).map (s :: ·)
def ruleP' (l : List PartD) (from_ to : SideD) : Option RuleD :=
  match setsP l from_.before, setsP l from_.source, setsP l from_.after with
  | some a, some b, some c => some ⟨from_.start, from_.fin, a, b, c, to.source.map (·.rune), if to.cursor < 0 then (to.source.length : Int) else to.cursor⟩
  | _, _, _ => none
theorem setsP_append (l : List PartD) (a b : List ItemD) : setsP l (a ++ b) = match setsP l a, setsP l b with
    | some x, some y => some (x ++ y)
    | _, _ => none := by
  induction a with
  | nil => simp [setsP]; cases setsP l b <;> rfl
  | cons x a ih =>
    rw [List.cons_append, setsP, setsP, ih]
    cases setP l x with
    | none => rfl
    | some s => cases setsP l a <;> cases setsP l b <;> simp
theorem setsP_one {l : List PartD} {x : ItemD} {s : Spans} (h : setP l x = some s) : setsP l [x] = some [s] := by
  rw [setsP, h, setsP]
  rfl
theorem setsP_step {l : List PartD} {L : List ItemD} {k : Nat} {x : ItemD} {ll : List Spans} {s : Spans} (hx : L[k]? = some x) (h1 : setsP l (L.take k) = some ll) (h2 : setP l x = some s) : setsP l (L.take (k + 1)) = some (ll ++ [s]) := by
  rw [List.take_add_one, hx]
  simp only [Option.toList]
  rw [setsP_append, h1, setsP_one h2]
theorem setsP_none {l : List PartD} {L : List ItemD} {k : Nat} {x : ItemD} (hx : L[k]? = some x) (h2 : setP l x = none) : setsP l L = none := by
  have e : L = L.take k ++ x :: L.drop (k + 1) := by
    rw [← drop_at hx, List.take_append_drop]
  rw [e, setsP_append, setsP, h2]
  cases setsP l (L.take k) <;> rfl
theorem setsP_len {l : List PartD} {L : List ItemD} {ll : List Spans} (h : setsP l L = some ll) : ll.length = L.length := by
  induction L generalizing ll with
  | nil => rw [setsP] at h; cases h; rfl
  | cons x L ih =>
    rw [setsP] at h
    cases hs : setP l x with
    | none => rw [hs] at h; cases h
    | some s =>
      rw [hs] at h
      cases h2 : setsP l L with
      | none => rw [h2] at h; cases h
      | some m =>
        rw [h2] at h
        cases h
        simp [ih h2]
theorem lookP_take {l : List PartD} {k : Nat} {p : PartD} (hp : l[k]? = some p) (s : ByteArray) : lookP (l.take (k + 1)) s = match lookP (l.take k) s with
    | some x => some x
    | none => if p.kind = 1 ∧ p.name = s then some p.set else none := by
  induction l generalizing k with
  | nil => simp at hp
  | cons q l ih =>
    cases k with
    | zero =>
      simp at hp
      subst hp
      simp [lookP]
    | succ k =>
      rw [List.take_succ_cons, List.take_succ_cons, lookP, lookP]
      by_cases h : q.kind = 1 ∧ q.name = s
      · rw [if_pos h, if_pos h]
      · rw [if_neg h, if_neg h]
        exact ih (by simpa using hp)
/-- Among the parts ahead of number k none from number j on has been found. -/
theorem lookP_drop {l : List PartD} {j k : Nat} {p : PartD} (hp : l[j]? = some p) (hj : j < k) (s : ByteArray) : lookP ((l.take k).drop j) s = if p.kind = 1 ∧ p.name = s then some p.set else lookP ((l.take k).drop (j + 1)) s := by
  have h : (l.take k)[j]? = some p := by rw [List.getElem?_take_of_lt hj]; exact hp
  rw [drop_at h, lookP]
theorem str_eq (a b : ByteArray) : (a.toList == b.toList) = decide (a = b) := by
  rw [Bool.eq_iff_iff, beq_iff_eq, decide_eq_true_iff, Lib.toList_data, Lib.toList_data]
  constructor
  · intro h
    exact ByteArray.ext (Array.ext' h)
  · intro h
    rw [h]

end Go.Proofs.Ythcjiainpaebfaa
