/- The plain reading of a set's text: runes, a place, what is read or the first fault. -/
import Derived.Test.YthnhbcohfoodlaaGreatDoorSetOps
namespace Go.Proofs.YthnhbcohfoodlaaGreatDoor
open Go.RowKit

/-- The rune at a place; -1 at the end. -/
def pk (L : List Int) (i : Nat) : Int := (L[i]?).getD (-1)
def blankB (r : Int) : Bool := decide (r = 32) || (decide (r = 9) || decide (r = 10))
def specialL : List Int := [91, 93, 38, 45, 94, 92, 58, 36, 40, 41, 123, 125, 60, 62, 124, 59, 35, 39, 34, 61, 44]
def plainB (r : Int) : Bool := decide (0 ≤ r) && (!blankB r && !specialL.contains r)
def hexB (r : Int) : Bool := (decide (48 ≤ r) && decide (r ≤ 57)) || ((decide (97 ≤ r) && decide (r ≤ 102)) || (decide (65 ≤ r) && decide (r ≤ 70)))
def hexV (r : Int) : Int := if r ≤ 57 then r - 48 else if 97 ≤ r then r - 87 else r - 55
def alnB (r : Int) : Bool := (decide (48 ≤ r) && decide (r ≤ 57)) || ((decide (97 ≤ r) && decide (r ≤ 122)) || (decide (65 ≤ r) && decide (r ≤ 90)))
/-- How far runes of a kind go on. -/
def runFrom (p : Int → Bool) (L : List Int) (i : Nat) : Nat := i + ((L.drop i).takeWhile p).length
def skipP (L : List Int) (i : Nat) : Nat := runFrom blankB L i
def textAt (L : List Int) (i j : Nat) : List Int := (L.drop i).take (j - i)
/-- What was read, and the place behind it; or a fault and its place. -/
abbrev Rdg (α : Type) := Except (Int × Nat) (α × Nat)
def needP (L : List Int) (i : Nat) (r : Int) : Except (Int × Nat) Nat := if pk L i = r then .ok (i + 1) else .error (2, i)
def hexVal (ds : List Int) : Int := ds.foldl (fun x d => 16 * x + hexV d) 0
/-- A rune by its number: the place is the u's. -/
def hexP (L : List Int) (i : Nat) : Rdg Int :=
  match needP L (i + 1) 123 with
  | .error e => .error e
  | .ok a =>
    if runFrom hexB L a - a < 1 ∨ 6 < runFrom hexB L a - a then .error (2, a)
    else match needP L (runFrom hexB L a) 125 with
      | .error e => .error e
      | .ok j => if 1114111 < hexVal (textAt L a (runFrom hexB L a)) then .error (3, i) else .ok (hexVal (textAt L a (runFrom hexB L a)), j)
def charP (L : List Int) (i : Nat) : Rdg Int :=
  if plainB (pk L i) = true then .ok (pk L i, i + 1)
  else if pk L i ≠ 92 then .error (2, i)
  else if pk L (i + 1) = 110 then .ok (10, i + 2)
  else if pk L (i + 1) = 116 then .ok (9, i + 2)
  else if pk L (i + 1) = 117 then hexP L (i + 1)
  else if pk L (i + 1) < 0 ∨ alnB (pk L (i + 1)) = true then .error (2, i + 1)
  else .ok (pk L (i + 1), i + 2)
/-- A rune, or two with a line between. -/
def spanP (L : List Int) (i : Nat) : Rdg (Int × Int) :=
  match charP L i with
  | .error e => .error e
  | .ok (low, j) =>
    if pk L j = 45 ∧ pk L (j + 1) ≠ 91 then
      match charP L (j + 1) with
      | .error e => .error e
      | .ok (high, k) => if high < low then .error (3, j + 1) else .ok ((low, high), k)
    else .ok ((low, low), j)
/-- A set that has a name. -/
def classOf (n : List Int) : Option Spans :=
  if n = [100, 105, 103, 105, 116] then some [(48, 57)]
  else if n = [108, 111, 119, 101, 114] then some [(97, 122), (223, 246), (248, 255)]
  else if n = [117, 112, 112, 101, 114] then some [(65, 90), (192, 214), (216, 222)]
  else if n = [108, 101, 116, 116, 101, 114] then some [(65, 90), (97, 122), (192, 214), (216, 246), (248, 255)]
  else if n = [118, 111, 119, 101, 108] then some [(65, 65), (69, 69), (73, 73), (79, 79), (85, 85), (97, 97), (101, 101), (105, 105), (111, 111), (117, 117)]
  else if n = [103, 114, 101, 101, 107] then some [(880, 1023)]
  else if n = [99, 121, 114, 105, 108, 108, 105, 99] then some [(1024, 1279)]
  else if n = [115, 112, 97, 99, 101] then some [(9, 10), (32, 32)]
  else if n = [97, 110, 121] then some [(0, 1114111)]
  else none
/-- A name between colons: the place is the bracket's. -/
def classP (L : List Int) (i : Nat) : Rdg Spans :=
  match classOf (textAt L (i + 2) (runFrom plainB L (i + 2))) with
  | none => .error (7, i + 2)
  | some s =>
    match needP L (runFrom plainB L (i + 2)) 58 with
    | .error e => .error e
    | .ok j => match needP L j 93 with
      | .error e => .error e
      | .ok k => .ok (s, k)
def opOf (r : Int) : Int := if r = 38 ∨ r = 45 then r else 124
/-- What stands at a place within a set; sets by inner. -/
def partP' (inner : Nat → Rdg Spans) (L : List Int) (i : Nat) : Rdg Spans :=
  if pk L i = 91 ∧ pk L (i + 1) = 58 then classP L i
  else if pk L i = 91 then inner i
  else if pk L i = 38 ∨ pk L i = 45 then inner (skipP L (i + 1))
  else match spanP L i with
    | .error e => .error e
    | .ok (x, j) => .ok ([x], j)
/-- The parts of a set to its bracket; f rounds at most. -/
def partsP (inner : Nat → Rdg Spans) (L : List Int) : Nat → Nat → Spans → Rdg Spans
  | 0, i, _ => .error (2, i)
  | f + 1, i, cur =>
    if pk L (skipP L i) = 93 then .ok (cur, skipP L i + 1)
    else match partP' inner L (skipP L i) with
      | .error e => .error e
      | .ok (s, j) =>
        if (opP (opOf (pk L (skipP L i))) cur s).2 ≠ 0 then .error ((opP (opOf (pk L (skipP L i))) cur s).2, j)
        else partsP inner L f j (opP (opOf (pk L (skipP L i))) cur s).1
/-- A set of so many levels more. -/
def setP' (L : List Int) : Nat → Nat → Rdg Spans
  | 0, i => .error (if pk L i = 91 then 4 else 2, i)
  | n + 1, i =>
    match needP L i 91 with
    | .error e => .error e
    | .ok j =>
      match partsP (setP' L n) L (L.length + 1) (if pk L j = 94 then j + 1 else j) [] with
      | .error e => .error e
      | .ok (cur, k) =>
        if pk L j = 94 then (if (opP 94 cur []).2 ≠ 0 then .error ((opP 94 cur []).2, k) else .ok ((opP 94 cur []).1, k))
        else .ok (cur, k)
/-- A text that is a set: the set, or a fault and its place. -/
def readP (L : List Int) : Spans × (Int × Int) :=
  if 4000 < L.length then ([], (4, 0))
  else match setP' L 20 (skipP L 0) with
    | .error (e, p) => ([], (e, (p : Int)))
    | .ok (s, j) => if skipP L j < L.length then ([], (2, (skipP L j : Int))) else (s, (0, 0))

theorem pk_lt {L : List Int} {i : Nat} (h : pk L i ≠ -1) : i < L.length := by
  unfold pk at h
  rcases Nat.lt_or_ge i L.length with hl | hl
  · exact hl
  · rw [List.getElem?_eq_none hl] at h; exact absurd rfl h
theorem pk_at {L : List Int} {i : Nat} {r : Int} (h : L[i]? = some r) : pk L i = r := by unfold pk; rw [h]; rfl
theorem pk_end {L : List Int} {i : Nat} (h : L.length ≤ i) : pk L i = -1 := by unfold pk; rw [List.getElem?_eq_none h]; rfl
theorem runFrom_in {p : Int → Bool} {L : List Int} {i : Nat} (h : i < L.length) (hp : p (pk L i) = true) : runFrom p L i = runFrom p L (i + 1) := by
  unfold runFrom
  rw [List.drop_eq_getElem_cons h, List.takeWhile_cons]
  have : pk L i = L[i] := pk_at (List.getElem?_eq_getElem h)
  rw [this] at hp
  rw [hp]
  simp
  omega
theorem runFrom_out {p : Int → Bool} {L : List Int} {i : Nat} (h : i < L.length → p (pk L i) = false) : runFrom p L i = i := by
  unfold runFrom
  rcases Nat.lt_or_ge i L.length with hl | hl
  · rw [List.drop_eq_getElem_cons hl, List.takeWhile_cons]
    have : pk L i = L[i] := pk_at (List.getElem?_eq_getElem hl)
    have h2 := h hl
    rw [this] at h2
    rw [h2]
    simp
  · rw [List.drop_of_length_le hl]; simp
theorem runFrom_le {p : Int → Bool} {L : List Int} {i : Nat} (h : i ≤ L.length) : i ≤ runFrom p L i ∧ runFrom p L i ≤ L.length := by
  unfold runFrom
  have := (List.takeWhile_sublist p (l := L.drop i)).length_le
  rw [List.length_drop] at this
  omega
/-- A closed one. -/
theorem readP_one : readP [91, 97, 45, 99, 32, 101, 93] = ([(97, 99), (101, 101)], (0, 0)) := by decide +kernel
theorem readP_two : readP [91, 91, 58, 97, 110, 121, 58, 93, 45, 91, 97, 93, 93] = ([(0, 96), (98, 1114111)], (0, 0)) := by decide +kernel

end Go.Proofs.YthnhbcohfoodlaaGreatDoor
