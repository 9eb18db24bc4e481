/- How a file is written: plain. -/
import Derived.Test.YtdfljicijfceeaaDoorPrint
import Derived.Test.YtdfljicijfceeaaDoorItems
namespace Go.Proofs.YtdfljicijfceeaaDoor
open Go.RowKit

abbrev Word := List UInt8
def setW (l : Spans) : Word := (printP l).1.data.toList
def itemW (a : ItemD) : Word := if a.kind = 1 then quoteP a.rune else if a.kind = 2 then setW a.set else 36 :: a.name.data.toList
/-- Items' words from number i on. -/
def wordsGo (cursor : Int) : Nat → List ItemD → List Word
  | i, [] => if (i : Int) = cursor then [[124]] else []
  | i, a :: r => (if (i : Int) = cursor then [[124]] else []) ++ itemW a :: wordsGo cursor (i + 1) r
def wordsP (l : List ItemD) (cursor : Int) : List Word := wordsGo cursor 0 l
def sideW (s : SideD) : List Word :=
  let a := (if s.start = true then [[94]] else []) ++ wordsP s.before (-1)
  a ++ (if a = [] then [] else [[123]]) ++ wordsP s.source s.cursor ++ (if s.fin = true ∨ 0 < s.after.length then [125] :: wordsP s.after (-1) else []) ++ (if s.fin = true then [[36]] else [])
def dirW (d : Int) : Word := if d = 1 then [62] else if d = 2 then [60] else [60, 62]
def partW (p : PartD) : List Word :=
  if p.kind = 1 then [36 :: p.name.data.toList, [61], setW p.set]
  else if p.kind = 3 then [[58, 58], setW p.set]
  else if p.kind = 4 then [[58, 58], p.name.data.toList]
  else sideW p.left ++ dirW p.dir :: sideW p.right
def partT (p : PartD) : Word := (partW p).flatMap (fun w => w ++ [32]) ++ [59, 10]
def fileT (l : List PartD) : Word := l.flatMap partT
/-- Words with a blank between them. -/
def joinW : List Word → Word
  | [] => []
  | [a] => a
  | a :: b :: r => a ++ 32 :: joinW (b :: r)
theorem join_blank (l : List Word) (h : l ≠ []) : joinW l ++ [32] = l.flatMap (fun w => w ++ [32]) := by
  induction l with
  | nil => exact absurd rfl h
  | cons a r ih =>
    cases r with
    | nil => simp [joinW]
    | cons b r =>
      have := ih (by simp)
      rw [List.flatMap_cons, ← this]
      simp [joinW]
theorem join_append (a b : List Word) (ha : a ≠ []) (hb : b ≠ []) : joinW (a ++ b) = joinW a ++ 32 :: joinW b := by
  induction a with
  | nil => exact absurd rfl ha
  | cons x r ih =>
    cases r with
    | nil =>
      cases b with
      | nil => exact absurd rfl hb
      | cons y b => simp [joinW]
    | cons z r =>
      have := ih (by simp)
      simp only [List.cons_append] at this ⊢
      rw [joinW, this, joinW]
      simp

end Go.Proofs.YtdfljicijfceeaaDoor
