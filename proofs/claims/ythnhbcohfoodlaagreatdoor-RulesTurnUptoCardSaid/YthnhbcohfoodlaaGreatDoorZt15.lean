/- PartWalk + PartAll + RulesP + RulesMono + RulesEmb + SpaceEq -/
import Derived.Test.YthnhbcohfoodlaaGreatDoorZt11
import Derived.Deep.RegionWith
import Derived.Test.YthnhbcohfoodlaaGreatDoorZt12
import Derived.Test.YthnhbcohfoodlaaGreatDoorZt8
import Derived.Test.YthnhbcohfoodlaaGreatDoorZt9
namespace Go.Proofs.YthnhbcohfoodlaaGreatDoor
open Go.RowKit
theorem blk_drew {w : World} {g : Nat} {t : TypeId} {cs : Array Value} (h : Blk w g t cs) : Blk w.drew g t cs := h
set_option maxRecDepth 100000 in
set_option maxHeartbeats 1600000 in
theorem part_var (name : ByteArray) (set : Spans) (left right : SideD) (dir : Int) (A : Option Addr) (n c : Nat) (L1 L2 L3 R1 R2 R3 : Option Addr) (a1 a2 a3 x1 x2 x3 b1 b2 b3 y1 y2 y3 : Nat) (w : World) (hs : RdS w w.heap.size A n set) (hn : n ≤ 9223372036854775807) :
 Calls Tryz.prog 70 #[.agg #[.int .i64 1, .string name, .slice A n c, .int .i64 dir, .bool left.start, .bool left.fin, .slice L1 a1 x1, .slice L2 a2 x2, .slice L3 a3 x3, .int .i64 left.cursor, .bool right.start, .bool right.fin, .slice R1 b1 y1, .slice R2 b2 y2, .slice R3 b3 y3, .int .i64 right.cursor]] w fun e w' => e = .returned (.int .i64 (if namedP name = true then wrongP set else 7)) ∧ Below w.heap.size w w' := by
 have HB := Lib.hid ((Below.refl w.heap.size w).alloc (Nat.le_refl _) (.cells #[.int .i64 1, .string name, .slice A n c, .int .i64 dir, .bool left.start, .bool left.fin, .slice L1 a1 x1, .slice L2 a2 x2, .slice L3 a3 x3, .int .i64 left.cursor, .bool right.start, .bool right.fin, .slice R1 b1 y1, .slice R2 b2 y2, .slice R3 b3 y3, .int .i64 right.cursor] 98))
 have HS := Lib.hid (rds_alloc hs (.cells #[.int .i64 1, .string name, .slice A n c, .int .i64 dir, .bool left.start, .bool left.fin, .slice L1 a1 x1, .slice L2 a2 x2, .slice L3 a3 x3, .int .i64 left.cursor, .bool right.start, .bool right.fin, .slice R1 b1 y1, .slice R2 b2 y2, .slice R3 b3 y3, .int .i64 right.cursor] 98))
 clear hs
 cases hr : namedP name
 ·go_enter Tryz.func70, Tryz.ntmps70
  go_wp2_with (go_at_call 24; refine (rulesyn_named _ _).mono ?_; rintro e w' ⟨rfl, rfl⟩; rw [hr])
  go_ret
  exact ⟨rfl, HB.out⟩
 ·go_enter Tryz.func70, Tryz.ntmps70
  go_wp2_with (go_at_call 24; refine (rulesyn_named _ _).mono ?_; rintro e w' ⟨rfl, rfl⟩; rw [hr])
  refine (sets_wrong A n c set _ hn HS.out).mono ?_
  rintro e w' ⟨rfl, hb⟩
  go_wp2_with fail
  go_ret
  exact ⟨rfl, HB.out.trans (hb.mono (by simp))⟩
set_option maxRecDepth 100000 in
set_option maxHeartbeats 1600000 in
theorem part_filter (name : ByteArray) (set : Spans) (left right : SideD) (dir : Int) (A : Option Addr) (n c : Nat) (L1 L2 L3 R1 R2 R3 : Option Addr) (a1 a2 a3 x1 x2 x3 b1 b2 b3 y1 y2 y3 : Nat) (w : World) (hs : RdS w w.heap.size A n set) (hn : n ≤ 9223372036854775807) :
 Calls Tryz.prog 70 #[.agg #[.int .i64 3, .string name, .slice A n c, .int .i64 dir, .bool left.start, .bool left.fin, .slice L1 a1 x1, .slice L2 a2 x2, .slice L3 a3 x3, .int .i64 left.cursor, .bool right.start, .bool right.fin, .slice R1 b1 y1, .slice R2 b2 y2, .slice R3 b3 y3, .int .i64 right.cursor]] w fun e w' => e = .returned (.int .i64 (wrongP set)) ∧ Below w.heap.size w w' := by
 have HB := Lib.hid ((Below.refl w.heap.size w).alloc (Nat.le_refl _) (.cells #[.int .i64 3, .string name, .slice A n c, .int .i64 dir, .bool left.start, .bool left.fin, .slice L1 a1 x1, .slice L2 a2 x2, .slice L3 a3 x3, .int .i64 left.cursor, .bool right.start, .bool right.fin, .slice R1 b1 y1, .slice R2 b2 y2, .slice R3 b3 y3, .int .i64 right.cursor] 98))
 have HS := Lib.hid (rds_alloc hs (.cells #[.int .i64 3, .string name, .slice A n c, .int .i64 dir, .bool left.start, .bool left.fin, .slice L1 a1 x1, .slice L2 a2 x2, .slice L3 a3 x3, .int .i64 left.cursor, .bool right.start, .bool right.fin, .slice R1 b1 y1, .slice R2 b2 y2, .slice R3 b3 y3, .int .i64 right.cursor] 98))
 clear hs
 go_enter Tryz.func70, Tryz.ntmps70
 go_wp2_with fail
 refine (sets_wrong A n c set _ hn HS.out).mono ?_
 rintro e w' ⟨rfl, hb⟩
 go_wp2_with fail
 go_ret
 exact ⟨rfl, HB.out.trans (hb.mono (by simp))⟩
set_option maxRecDepth 100000 in
set_option maxHeartbeats 1600000 in
theorem part_other (name : ByteArray) (left right : SideD) (kind dir : Int) (A : Option Addr) (n c : Nat) (L1 L2 L3 R1 R2 R3 : Option Addr) (a1 a2 a3 x1 x2 x3 b1 b2 b3 y1 y2 y3 : Nat) (w : World) (k1 : kind ≠ 1) (k2 : kind ≠ 2) (k3 : kind ≠ 3) (k4 : kind ≠ 4) :
 Calls Tryz.prog 70 #[.agg #[.int .i64 kind, .string name, .slice A n c, .int .i64 dir, .bool left.start, .bool left.fin, .slice L1 a1 x1, .slice L2 a2 x2, .slice L3 a3 x3, .int .i64 left.cursor, .bool right.start, .bool right.fin, .slice R1 b1 y1, .slice R2 b2 y2, .slice R3 b3 y3, .int .i64 right.cursor]] w fun e w' => e = .returned (.int .i64 (1)) ∧ Below w.heap.size w w' := by
 have HB := Lib.hid ((Below.refl w.heap.size w).alloc (Nat.le_refl _) (.cells #[.int .i64 kind, .string name, .slice A n c, .int .i64 dir, .bool left.start, .bool left.fin, .slice L1 a1 x1, .slice L2 a2 x2, .slice L3 a3 x3, .int .i64 left.cursor, .bool right.start, .bool right.fin, .slice R1 b1 y1, .slice R2 b2 y2, .slice R3 b3 y3, .int .i64 right.cursor] 98))
 have e1 : (kind == 1) = false := by simpa using k1
 have e2 : (kind == 2) = false := by simpa using k2
 have e3 : (kind == 3) = false := by simpa using k3
 have e4 : (kind == 4) = false := by simpa using k4
 clear k1 k2 k3 k4
 go_enter Tryz.func70, Tryz.ntmps70
 go_wp2_with fail
 go_ret
 exact ⟨rfl, HB.out⟩
set_option maxRecDepth 100000 in
set_option maxHeartbeats 1600000 in
theorem part_pass (name : ByteArray) (left right : SideD) (dir : Int) (A : Option Addr) (n c : Nat) (L1 L2 L3 R1 R2 R3 : Option Addr) (a1 a2 a3 x1 x2 x3 b1 b2 b3 y1 y2 y3 : Nat) (w : World)  :
 Calls Tryz.prog 70 #[.agg #[.int .i64 4, .string name, .slice A n c, .int .i64 dir, .bool left.start, .bool left.fin, .slice L1 a1 x1, .slice L2 a2 x2, .slice L3 a3 x3, .int .i64 left.cursor, .bool right.start, .bool right.fin, .slice R1 b1 y1, .slice R2 b2 y2, .slice R3 b3 y3, .int .i64 right.cursor]] w fun e w' => e = .returned (.int .i64 (if passB name = true then 0 else 7)) ∧ Below w.heap.size w w' := by
 have HB := Lib.hid ((Below.refl w.heap.size w).alloc (Nat.le_refl _) (.cells #[.int .i64 4, .string name, .slice A n c, .int .i64 dir, .bool left.start, .bool left.fin, .slice L1 a1 x1, .slice L2 a2 x2, .slice L3 a3 x3, .int .i64 left.cursor, .bool right.start, .bool right.fin, .slice R1 b1 y1, .slice R2 b2 y2, .slice R3 b3 y3, .int .i64 right.cursor] 98))
 have c1 : (w.alloc (.cells #[.int .i64 4, .string name, .slice A n c, .int .i64 dir, .bool left.start, .bool left.fin, .slice L1 a1 x1, .slice L2 a2 x2, .slice L3 a3 x3, .int .i64 left.cursor, .bool right.start, .bool right.fin, .slice R1 b1 y1, .slice R2 b2 y2, .slice R3 b3 y3, .int .i64 right.cursor] 98)).cell? ⟨w.heap.size, 1, none⟩ = some (.string name) := (Blk.new _ _ _).cell 1
 have hlt : w.heap.size < (w.alloc (.cells #[.int .i64 4, .string name, .slice A n c, .int .i64 dir, .bool left.start, .bool left.fin, .slice L1 a1 x1, .slice L2 a2 x2, .slice L3 a3 x3, .int .i64 left.cursor, .bool right.start, .bool right.fin, .slice R1 b1 y1, .slice R2 b2 y2, .slice R3 b3 y3, .int .i64 right.cursor] 98)).heap.size := by simp
 cases hr : passB name
 all_goals
  have HR := Lib.hid hr
  clear hr
  go_enter Tryz.func70, Tryz.ntmps70
  go_wp2_with fail
  generalize w.alloc (.cells #[.int .i64 4, .string name, .slice A n c, .int .i64 dir, .bool left.start, .bool left.fin, .slice L1 a1 x1, .slice L2 a2 x2, .slice L3 a3 x3, .int .i64 left.cursor, .bool right.start, .bool right.fin, .slice R1 b1 y1, .slice R2 b2 y2, .slice R3 b3 y3, .int .i64 right.cursor] 98) = W0 at *
  go_region_with (first | (go_at_call 97; refine (rulesyn_passes _).mono ?_; rintro e w' ⟨rfl, rfl⟩) | (go_at_call 96; refine (pass_has _ name _ HR.out _ (blk_drew (Blk.new _ _ _))).mono ?_; rintro e w' ⟨rfl, rfl⟩))
  all_goals
   go_wp2_with fail
   go_ret
   exact ⟨rfl, below_drewN (HB.out.alloc HB.out.size _) _⟩
end Go.Proofs.YthnhbcohfoodlaaGreatDoor

namespace Go.Proofs.YthnhbcohfoodlaaGreatDoor
open Go.RowKit
set_option maxRecDepth 100000 in
set_option maxHeartbeats 1600000 in
theorem rulesyn_part (p : PartD) (A : Option Addr) (n c : Nat) (L1 L2 L3 R1 R2 R3 : Option Addr) (a1 a2 a3 x1 x2 x3 b1 b2 b3 y1 y2 y3 : Nat) (w : World) (hs : RdS w w.heap.size A n p.set) (hn : n ≤ maxLen) (l1 : RdIt w w.heap.size L1 a1 p.left.before) (l2 : RdIt w w.heap.size L2 a2 p.left.source) (l3 : RdIt w w.heap.size L3 a3 p.left.after) (la1 : a1 ≤ maxLen) (la2 : a2 ≤ maxLen) (la3 : a3 ≤ maxLen) (r1 : RdIt w w.heap.size R1 b1 p.right.before) (r2 : RdIt w w.heap.size R2 b2 p.right.source) (r3 : RdIt w w.heap.size R3 b3 p.right.after) (ra1 : b1 ≤ maxLen) (ra2 : b2 ≤ maxLen) (ra3 : b3 ≤ maxLen)  :
 Calls Tryz.prog 70 #[.agg #[.int .i64 p.kind, .string p.name, .slice A n c, .int .i64 p.dir, .bool p.left.start, .bool p.left.fin, .slice L1 a1 x1, .slice L2 a2 x2, .slice L3 a3 x3, .int .i64 p.left.cursor, .bool p.right.start, .bool p.right.fin, .slice R1 b1 y1, .slice R2 b2 y2, .slice R3 b3 y3, .int .i64 p.right.cursor]] w fun e w' => e = .returned (.int .i64 (partP p)) ∧ Below w.heap.size w w' := by
 obtain ⟨kind, name, set, dir, left, right⟩ := p
 dsimp only at *
 unfold partP
 dsimp only
 by_cases k1 : kind = 1
 ·subst k1
  rw [if_pos rfl]
  exact part_var name set left right dir A n c L1 L2 L3 R1 R2 R3 a1 a2 a3 x1 x2 x3 b1 b2 b3 y1 y2 y3 w hs (by unfold maxLen at hn; omega)
 by_cases k3 : kind = 3
 ·subst k3
  rw [if_neg k1, if_pos rfl]
  exact part_filter name set left right dir A n c L1 L2 L3 R1 R2 R3 a1 a2 a3 x1 x2 x3 b1 b2 b3 y1 y2 y3 w hs (by unfold maxLen at hn; omega)
 by_cases k4 : kind = 4
 ·subst k4
  rw [if_neg k1, if_neg k3, if_pos rfl]
  exact part_pass name left right dir A n c L1 L2 L3 R1 R2 R3 a1 a2 a3 x1 x2 x3 b1 b2 b3 y1 y2 y3 w
 by_cases k2 : kind = 2
 ·subst k2
  rw [if_neg k1, if_neg k3, if_neg k4, if_pos rfl]
  by_cases hd : dir < 1 ∨ 3 < dir
  ·have e : ruleP dir left right = 1 := if_pos hd
   rw [e]
   exact part_dir name left right dir A n c L1 L2 L3 R1 R2 R3 a1 a2 a3 x1 x2 x3 b1 b2 b3 y1 y2 y3 w hd
  rcases (show dir = 1 ∨ dir = 2 ∨ dir = 3 by omega) with rfl | rfl | rfl
  ·exact part_rule1 name left right A n c L1 L2 L3 R1 R2 R3 a1 a2 a3 x1 x2 x3 b1 b2 b3 y1 y2 y3 w l1 l2 l3 la1 la2 la3 r1 r2 r3 ra1 ra2 ra3
  ·exact part_rule2 name left right A n c L1 L2 L3 R1 R2 R3 a1 a2 a3 x1 x2 x3 b1 b2 b3 y1 y2 y3 w l1 l2 l3 la1 la2 la3 r1 r2 r3 ra1 ra2 ra3
  ·exact part_rule3 name left right A n c L1 L2 L3 R1 R2 R3 a1 a2 a3 x1 x2 x3 b1 b2 b3 y1 y2 y3 w l1 l2 l3 la1 la2 la3 r1 r2 r3 ra1 ra2 ra3
 rw [if_neg k1, if_neg k3, if_neg k4, if_neg k2]
 exact part_other name left right kind dir A n c L1 L2 L3 R1 R2 R3 a1 a2 a3 x1 x2 x3 b1 b2 b3 y1 y2 y3 w k1 k2 k3 k4
end Go.Proofs.YthnhbcohfoodlaaGreatDoor

namespace Go.Proofs.YthnhbcohfoodlaaGreatDoor
open Go.RowKit
def remB (r : Int) : Bool := decide (0 ≤ r) && !decide (r = 10)
def spaceF (L : List Int) : Nat → Nat → Nat
 | 0, i => skipP L i
 | f + 1, i => if pk L (skipP L i) = 35 then spaceF L f (runFrom remB L (skipP L i)) else skipP L i
def spaceP (L : List Int) (i : Nat) : Nat := spaceF L (L.length + 1) i
def letB (r : Int) : Bool := (decide (97 ≤ r) && decide (r ≤ 122)) || decide (r = 95)
def digB (r : Int) : Bool := decide (48 ≤ r) && decide (r ≤ 57)
def wordEnd (L : List Int) (i : Nat) : Nat := if letB (pk L i) = true then runFrom (fun r => letB r || digB r) L i else i
def wordT (L : List Int) (i : Nat) : ByteArray := runesBytes (textAt L i (wordEnd L i))
def nameP (L : List Int) (i : Nat) : Rdg ByteArray := if namedP (wordT L i) = true then .ok (wordT L i, wordEnd L i) else .error (7, i)
def notQ (r : Int) : Bool := decide (0 ≤ r) && !decide (r = 39)
def noName : ByteArray := ⟨#[]⟩
def runeI (x : Int) : ItemD := ⟨1, x, [], noName⟩
def quotedP (L : List Int) (i : Nat) : Rdg (List ItemD) :=
 if pk L (runFrom notQ L (i + 1)) = 39 then .ok ((textAt L (i + 1) (runFrom notQ L (i + 1))).map runeI, runFrom notQ L (i + 1) + 1) else .error (2, runFrom notQ L (i + 1))
def elemP (L : List Int) (a : Nat) (out : List ItemD) (cur : Int) : Except (Int × Nat) (Option ((List ItemD × Int) × Nat)) :=
 if pk L a = 124 then (if 0 ≤ cur then .error (5, a) else .ok (some ((out, (out.length : Int)), a + 1)))
 else if pk L a = 91 then match setP' L 20 a with | .error e => .error e | .ok (s, j) => .ok (some ((out ++ [⟨2, 0, s, noName⟩], cur), j))
 else if pk L a = 36 ∧ letB (pk L (a + 1)) = true then match nameP L (a + 1) with | .error e => .error e | .ok (s, j) => .ok (some ((out ++ [⟨3, 0, [], s⟩], cur), j))
 else if pk L a = 39 then match quotedP L a with | .error e => .error e | .ok (l, j) => .ok (some ((out ++ l, cur), j))
 else if pk L a = 92 ∨ plainB (pk L a) = true then match charP L a with | .error e => .error e | .ok (x, j) => if rightB x = true then .ok (some ((out ++ [runeI x], cur), j)) else .error (3, a)
 else .ok none
def itemsF (L : List Int) : Nat → Nat → List ItemD → Int → Rdg (List ItemD × Int)
 | 0, i, _, _ => .error (2, i)
 | f + 1, i, out, cur => match elemP L (spaceP L i) out cur with
   | .error e => .error e
   | .ok none => .ok ((out, cur), spaceP L i)
   | .ok (some ((o, c), j)) => if 20 < o.length then .error (5, spaceP L i) else itemsF L f j o c
def itemsR (L : List Int) (i : Nat) : Rdg (List ItemD × Int) := itemsF L (L.length + 1) i [] (-1)
def headR (L : List Int) (start : Bool) (a : Nat) : Rdg (List ItemD × List ItemD × Int) :=
 match itemsR L a with
 | .error e => .error e
 | .ok ((l, c), j) =>
   if pk L j = 123 then (if 0 ≤ c then .error (8, a) else match itemsR L (j + 1) with | .error e => .error e | .ok ((l2, c2), j2) => .ok ((l, l2, c2), j2))
   else if start = true then .error (2, j) else .ok (([], l, c), j)
def tailR (L : List Int) (j : Nat) : Rdg (List ItemD × Bool) :=
 if pk L j = 125 then match itemsR L (j + 1) with
  | .error e => .error e
  | .ok ((l, c), k) => if 0 ≤ c then .error (8, j + 1) else if pk L k = 36 then .ok ((l, true), k + 1) else .ok ((l, false), k)
 else .ok (([], false), j)
def sideR (L : List Int) (i : Nat) : Rdg SideD :=
 match headR L (decide (pk L (spaceP L i) = 94)) (if pk L (spaceP L i) = 94 then spaceP L i + 1 else spaceP L i) with
 | .error e => .error e
 | .ok ((b, s, c), j) => match tailR L j with
   | .error e => .error e
   | .ok ((a, fin), k) => .ok (⟨decide (pk L (spaceP L i) = 94), fin, b, s, a, c⟩, spaceP L k)
def arrowR (L : List Int) (i : Nat) : Rdg Int :=
 if pk L i = 62 then .ok (1, i + 1) else if pk L i = 60 ∧ pk L (i + 1) = 62 then .ok (3, i + 2)
 else match needP L i 60 with | .error e => .error e | .ok j => .ok (2, j)
def noSide : SideD := ⟨false, false, [], [], [], 0⟩
def ruleR (L : List Int) (i : Nat) : Rdg PartD :=
 match sideR L i with
 | .error e => .error e
 | .ok (l, j) => match arrowR L j with
   | .error e => .error e
   | .ok (d, k) => match sideR L k with
     | .error e => .error e
     | .ok (r, m) => if partP ⟨2, noName, [], d, l, r⟩ ≠ 0 then .error (partP ⟨2, noName, [], d, l, r⟩, i) else .ok (⟨2, noName, [], d, l, r⟩, m)
def passR (L : List Int) (i : Nat) : Rdg PartD :=
 match needP L (i + 1) 58 with
 | .error e => .error e
 | .ok j =>
   if pk L (spaceP L j) = 91 then match setP' L 20 (spaceP L j) with | .error e => .error e | .ok (s, k) => .ok (⟨3, noName, s, 0, noSide, noSide⟩, k)
   else if passB (wordT L (spaceP L j)) = true then .ok (⟨4, wordT L (spaceP L j), [], 0, noSide, noSide⟩, wordEnd L (spaceP L j)) else .error (7, spaceP L j)
def varR (L : List Int) (i : Nat) : Rdg PartD :=
 match nameP L (i + 1) with
 | .error e => .error e
 | .ok (s, j) => match needP L (spaceP L j) 61 with
   | .error e => .error e
   | .ok k => match setP' L 20 (spaceP L k) with | .error e => .error e | .ok (t, m) => .ok (⟨1, s, t, 0, noSide, noSide⟩, m)
def partR (L : List Int) (i : Nat) : Rdg PartD :=
 if pk L i = 58 then passR L i
 else if pk L i = 36 ∧ pk L (spaceP L (wordEnd L (i + 1))) = 61 then varR L i
 else ruleR L i
def fileF (L : List Int) : Nat → Nat → List PartD → Except (Int × Nat) (List PartD)
 | 0, i, _ => .error (2, i)
 | f + 1, i, l =>
   if pk L (spaceP L i) < 0 then .ok l
   else if l.length = 200 then .error (5, spaceP L i)
   else match partR L (spaceP L i) with
    | .error e => .error e
    | .ok (p, j) => match needP L (spaceP L j) 59 with
      | .error e => .error e
      | .ok k => fileF L f k (l ++ [p])
def rulesP (L : List Int) : List PartD × (Int × Int) :=
 if 16000 < L.length then ([], (4, 0))
 else match fileF L (L.length + 1) 0 [] with
  | .error (e, p) => ([], (e, (p : Int)))
  | .ok l => (l, (0, 0))
end Go.Proofs.YthnhbcohfoodlaaGreatDoor

namespace Go.Proofs.YthnhbcohfoodlaaGreatDoor
open Go.RowKit
theorem spaceF_ge (L : List Int) : ∀ f i, i ≤ spaceF L f i := by
 intro f
 induction f with
 | zero => exact fun i => skipP_ge L i
 | succ f ih =>
   intro i
   rw [spaceF]
   split
   ·exact Nat.le_trans (skipP_ge L i) (Nat.le_trans (runFrom_ge _ _ _) (ih _))
   ·exact skipP_ge L i
theorem skipP_le {L : List Int} {i : Nat} (h : i ≤ L.length) : skipP L i ≤ L.length := (runFrom_le h).2
theorem spaceF_le (L : List Int) : ∀ f i, i ≤ L.length → spaceF L f i ≤ L.length := by
 intro f
 induction f with
 | zero => exact fun i h => skipP_le h
 | succ f ih =>
   intro i h
   rw [spaceF]
   split
   ·exact ih _ (runFrom_le (skipP_le h)).2
   ·exact skipP_le h
theorem spaceP_ge (L : List Int) (i : Nat) : i ≤ spaceP L i := spaceF_ge L _ i
theorem spaceP_le {L : List Int} {i : Nat} (h : i ≤ L.length) : spaceP L i ≤ L.length := spaceF_le L _ i h
theorem wordEnd_ge (L : List Int) (i : Nat) : i ≤ wordEnd L i := by
 unfold wordEnd
 split
 ·exact runFrom_ge _ _ _
 ·exact Nat.le_refl _
theorem wordEnd_le {L : List Int} {i : Nat} (h : i ≤ L.length) : wordEnd L i ≤ L.length := by
 unfold wordEnd
 split
 ·exact (runFrom_le h).2
 ·exact h
theorem nameP_ok {L : List Int} {i j : Nat} {s : ByteArray} (h : nameP L i = .ok (s, j)) : i < j ∧ namedP s = true ∧ s = wordT L i ∧ j = wordEnd L i := by
 unfold nameP at h
 split at h
 ·rename_i hn
  injection h with h
  injection h with h1 h2
  subst h1 h2
  refine ⟨?_, hn, rfl, rfl⟩
  rcases Nat.lt_or_ge i (wordEnd L i) with hl | hl
  ·exact hl
  ·have he : wordEnd L i = i := Nat.le_antisymm hl (wordEnd_ge L i)
   have ht : wordT L i = runesBytes [] := by
    unfold wordT textAt
    rw [he, Nat.sub_self]
    rfl
   rw [ht] at hn
   exact absurd hn (by unfold namedP; simp [show (runesBytes []).size = 0 from rfl])
 ·cases h
theorem quotedP_ok {L : List Int} {i j : Nat} {l : List ItemD} (h : quotedP L i = .ok (l, j)) : i + 1 < j ∧ j ≤ L.length := by
 unfold quotedP at h
 split at h
 ·rename_i hn
  injection h with h
  injection h with h1 h2
  have hlt := pk_lt (L := L) (i := runFrom notQ L (i + 1)) (by omega)
  have := runFrom_ge notQ L (i + 1)
  omega
 ·cases h
theorem elemP_ok {L : List Int} (hL : RunesOk L) {a j : Nat} {out o : List ItemD} {cur c : Int} (h : elemP L a out cur = .ok (some ((o, c), j))) : a < j ∧ out.length ≤ o.length := by
 unfold elemP at h
 split at h
 ·split at h
  ·cases h
  ·injection h with h; injection h with h; injection h with h1 h2; injection h1 with h1 h3
   subst h1 h2
   exact ⟨by omega, Nat.le_refl _⟩
 ·split at h
  ·split at h
   ·cases h
   ·rename_i s j' hs
    injection h with h; injection h with h; injection h with h1 h2; injection h1 with h1 h3
    subst h1 h2
    exact ⟨(setP_ok hL 20 _ _ _ hs).1, by simp⟩
  ·split at h
   ·split at h
    ·cases h
    ·rename_i s j' hs
     injection h with h; injection h with h; injection h with h1 h2; injection h1 with h1 h3
     subst h1 h2
     have := (nameP_ok hs).1
     exact ⟨by omega, by simp⟩
   ·split at h
    ·split at h
     ·cases h
     ·rename_i s j' hs
      injection h with h; injection h with h; injection h with h1 h2; injection h1 with h1 h3
      subst h1 h2
      have := (quotedP_ok hs).1
      exact ⟨by omega, by simp⟩
    ·split at h
     ·split at h
      ·cases h
      ·rename_i x j' hs
       split at h
       ·injection h with h; injection h with h; injection h with h1 h2; injection h1 with h1 h3
        subst h1 h2
        exact ⟨(charP_ok hL hs).1, by simp⟩
       ·cases h
     ·injection h with h; cases h
end Go.Proofs.YthnhbcohfoodlaaGreatDoor

namespace Go.Proofs.YthnhbcohfoodlaaGreatDoor
open Go.RowKit
structure Emb (p : Nat) (L L' : List Int) : Prop where
 here : ∀ k, k < L.length → L'[p + k]? = L[k]?
 stop : pk L' (p + L.length) = 10 ∨ pk L' (p + L.length) = 32 ∨ pk L' (p + L.length) = -1
def EmbR {α : Type} (p : Nat) (L : List Int) (r r' : Rdg α) : Prop := ∀ v j, r = .ok (v, j) → j ≤ L.length ∧ r' = .ok (v, p + j)
section
variable {p : Nat} {L L' : List Int} (E : Emb p L L')
include E
theorem Emb.pk {k : Nat} (hk : k < L.length) : pk L' (p + k) = pk L k := by
 unfold Go.Proofs.YthnhbcohfoodlaaGreatDoor.pk
 rw [E.here k hk]
theorem Emb.is {k : Nat} (hk : k ≤ L.length) {r : Int} (h1 : r ≠ 10) (h2 : r ≠ -1) (h3 : r ≠ 32) : Go.Proofs.YthnhbcohfoodlaaGreatDoor.pk L' (p + k) = r ↔ Go.Proofs.YthnhbcohfoodlaaGreatDoor.pk L k = r := by
 rcases Nat.lt_or_ge k L.length with hl | hl
 ·rw [E.pk hl]
 ·have hk : k = L.length := by omega
  subst hk
  rw [pk_end (Nat.le_refl _)]
  rcases E.stop with e | e | e <;> rw [e] <;> constructor <;> intro h' <;> omega
theorem Emb.lt {k : Nat} (hk : k < L.length) : p + k < L'.length := by
 have := E.here k hk
 rw [List.getElem?_eq_getElem hk] at this
 exact (List.getElem?_eq_some_iff.1 this).1
theorem Emb.len : L.length ≤ L'.length := by
 rcases Nat.eq_zero_or_pos L.length with h | h
 ·omega
 ·have := E.lt (k := L.length - 1) (by omega)
  omega
theorem Emb.run {q : Int → Bool} : ∀ (d i : Nat), L.length - i = d → i ≤ L.length → (runFrom q L i < L.length ∨ q (Go.Proofs.YthnhbcohfoodlaaGreatDoor.pk L' (p + L.length)) = false) → runFrom q L' (p + i) = p + runFrom q L i := by
 intro d
 induction d with
 | zero =>
   intro i hd hi hq
   have e : i = L.length := by omega
   subst e
   have e2 : runFrom q L L.length = L.length := runFrom_out (fun h => absurd h (Nat.lt_irrefl _))
   rw [e2] at hq ⊢
   rcases hq with hq | hq
   ·omega
   ·exact runFrom_out (fun _ => hq)
 | succ d ih =>
   intro i hd hi hq
   have hl : i < L.length := by omega
   cases hv : q (Go.Proofs.YthnhbcohfoodlaaGreatDoor.pk L i) with
   | true =>
     rw [runFrom_in hl hv] at hq ⊢
     rw [runFrom_in (E.lt hl) (by rw [E.pk hl]; exact hv), Nat.add_assoc]
     exact ih (i + 1) (by omega) (by omega) hq
   | false => rw [runFrom_out (fun _ => hv), runFrom_out (fun _ => by rw [E.pk hl]; exact hv)]
theorem Emb.run2 {q : Int → Bool} (h1 : q 10 = false) (h2 : q 32 = false) (h3 : q (-1) = false) {i : Nat} (hi : i ≤ L.length) : runFrom q L' (p + i) = p + runFrom q L i := by
 refine E.run _ i rfl hi (.inr ?_)
 rcases E.stop with e | e | e <;> rw [e] <;> assumption
theorem Emb.skip {i : Nat} (hi : i ≤ L.length) (h : skipP L i < L.length) : skipP L' (p + i) = p + skipP L i := E.run _ i rfl hi (.inl h)
theorem Emb.text {i j : Nat} (hj : j ≤ L.length) : textAt L' (p + i) (p + j) = textAt L i j := by
 unfold textAt
 rw [show p + j - (p + i) = j - i by omega]
 apply List.ext_getElem?
 intro k
 rcases Nat.lt_or_ge k (j - i) with hk | hk
 ·rw [List.getElem?_take_of_lt hk, List.getElem?_take_of_lt hk, List.getElem?_drop, List.getElem?_drop, Nat.add_assoc]
  exact E.here _ (by omega)
 ·rw [List.getElem?_take_eq_none hk, List.getElem?_take_eq_none hk]
theorem emb_need {i j : Nat} {r : Int} (h : needP L i r = .ok j) (hr : r ≠ -1) : j ≤ L.length ∧ needP L' (p + i) r = .ok (p + j) := by
 obtain ⟨rfl, hp⟩ := needP_ok h
 have hl : i < L.length := pk_lt (by rw [hp]; exact hr)
 refine ⟨hl, ?_⟩
 rw [needP_at (by rw [E.pk hl]; exact hp)]
 rfl
theorem emb_hex (i : Nat) : EmbR p L (hexP L i) (hexP L' (p + i)) := by
 intro v j h
 unfold hexP at h ⊢
 cases h1 : needP L (i + 1) 123 with
 | error e => rw [h1] at h; cases h
 | ok a =>
   obtain ⟨ha, e1⟩ := emb_need E h1 (by decide)
   rw [h1] at h
   rw [show p + i + 1 = p + (i + 1) from rfl, e1]
   simp only at h ⊢
   rw [E.run2 rfl rfl rfl ha, show p + runFrom hexB L a - (p + a) = runFrom hexB L a - a by omega]
   by_cases hn : runFrom hexB L a - a < 1 ∨ 6 < runFrom hexB L a - a
   ·rw [if_pos hn] at h; cases h
   ·rw [if_neg hn] at h ⊢
    cases h2 : needP L (runFrom hexB L a) 125 with
    | error e => rw [h2] at h; cases h
    | ok b =>
      obtain ⟨hb, e2⟩ := emb_need E h2 (by decide)
      rw [h2] at h
      rw [e2]
      simp only at h ⊢
      rw [E.text (runFrom_le ha).2]
      by_cases hm : 1114111 < hexVal (textAt L a (runFrom hexB L a))
      ·rw [if_pos hm] at h; cases h
      ·rw [if_neg hm] at h ⊢
       injection h with h
       injection h with h3 h4
       subst h3 h4
       exact ⟨hb, rfl⟩
theorem emb_char (i : Nat) : EmbR p L (charP L i) (charP L' (p + i)) := by
 intro v j h
 unfold charP at h ⊢
 by_cases hp : plainB (Go.Proofs.YthnhbcohfoodlaaGreatDoor.pk L i) = true
 ·have hl : i < L.length := pk_lt (fun e => by rw [e] at hp; exact absurd hp (by decide))
  rw [if_pos hp] at h
  rw [E.pk hl, if_pos hp]
  injection h with h
  injection h with h3 h4
  subst h3 h4
  exact ⟨hl, rfl⟩
 ·rw [if_neg hp] at h
  by_cases h92 : Go.Proofs.YthnhbcohfoodlaaGreatDoor.pk L i ≠ 92
  ·rw [if_pos h92] at h; cases h
  ·rw [if_neg h92] at h
   have hl : i < L.length := pk_lt (by omega)
   rw [E.pk hl, if_neg hp, if_neg h92]
   have hl1 : i + 1 < L.length := pk_lt (fun e => by rw [e] at h; simp at h)
   rw [show p + i + 1 = p + (i + 1) from rfl, E.pk hl1]
   by_cases c1 : Go.Proofs.YthnhbcohfoodlaaGreatDoor.pk L (i + 1) = 110
   ·rw [if_pos c1] at h ⊢
    injection h with h; injection h with h3 h4; subst h3 h4
    exact ⟨hl1, rfl⟩
   ·rw [if_neg c1] at h ⊢
    by_cases c2 : Go.Proofs.YthnhbcohfoodlaaGreatDoor.pk L (i + 1) = 116
    ·rw [if_pos c2] at h ⊢
     injection h with h; injection h with h3 h4; subst h3 h4
     exact ⟨hl1, rfl⟩
    ·rw [if_neg c2] at h ⊢
     by_cases c3 : Go.Proofs.YthnhbcohfoodlaaGreatDoor.pk L (i + 1) = 117
     ·rw [if_pos c3] at h ⊢
      exact emb_hex E _ _ _ h
     ·rw [if_neg c3] at h ⊢
      by_cases c4 : Go.Proofs.YthnhbcohfoodlaaGreatDoor.pk L (i + 1) < 0 ∨ alnB (Go.Proofs.YthnhbcohfoodlaaGreatDoor.pk L (i + 1)) = true
      ·rw [if_pos c4] at h; cases h
      ·rw [if_neg c4] at h ⊢
       injection h with h; injection h with h3 h4; subst h3 h4
       exact ⟨hl1, rfl⟩
theorem emb_span (i : Nat) : EmbR p L (spanP L i) (spanP L' (p + i)) := by
 intro v j h
 unfold spanP at h ⊢
 cases h1 : charP L i with
 | error e => rw [h1] at h; cases h
 | ok q =>
   obtain ⟨low, a⟩ := q
   obtain ⟨ha, e1⟩ := emb_char E _ _ _ h1
   rw [h1] at h
   rw [e1]
   simp only at h ⊢
   have c1 : (Go.Proofs.YthnhbcohfoodlaaGreatDoor.pk L' (p + a) = 45 ∧ Go.Proofs.YthnhbcohfoodlaaGreatDoor.pk L' (p + a + 1) ≠ 91) ↔ (Go.Proofs.YthnhbcohfoodlaaGreatDoor.pk L a = 45 ∧ Go.Proofs.YthnhbcohfoodlaaGreatDoor.pk L (a + 1) ≠ 91) := by
    rw [E.is ha (by decide) (by decide) (by decide)]
    refine and_congr_right (fun h45 => ?_)
    have hl : a < L.length := pk_lt (by omega)
    exact not_congr (E.is (k := a + 1) hl (by decide) (by decide) (by decide))
   by_cases hc : Go.Proofs.YthnhbcohfoodlaaGreatDoor.pk L a = 45 ∧ Go.Proofs.YthnhbcohfoodlaaGreatDoor.pk L (a + 1) ≠ 91
   ·rw [if_pos hc] at h
    rw [if_pos (c1.2 hc)]
    cases h2 : charP L (a + 1) with
    | error e => rw [h2] at h; cases h
    | ok q =>
      obtain ⟨high, b⟩ := q
      obtain ⟨hb, e2⟩ := emb_char E _ _ _ h2
      rw [h2] at h
      rw [show p + a + 1 = p + (a + 1) from rfl, e2]
      simp only at h ⊢
      by_cases hh : high < low
      ·rw [if_pos hh] at h; cases h
      ·rw [if_neg hh] at h ⊢
       injection h with h; injection h with h3 h4; subst h3 h4
       exact ⟨hb, rfl⟩
   ·rw [if_neg hc] at h
    rw [if_neg (fun x => hc (c1.1 x))]
    injection h with h; injection h with h3 h4; subst h3 h4
    exact ⟨ha, rfl⟩
theorem emb_class {i : Nat} (hi : i + 2 ≤ L.length) : EmbR p L (classP L i) (classP L' (p + i)) := by
 intro v j h
 unfold classP at h ⊢
 rw [show p + i + 2 = p + (i + 2) from rfl, E.run2 rfl rfl rfl hi, E.text (runFrom_le hi).2]
 cases h0 : classOf (textAt L (i + 2) (runFrom plainB L (i + 2))) with
 | none => rw [h0] at h; cases h
 | some s =>
   rw [h0] at h
   simp only at h ⊢
   cases h1 : needP L (runFrom plainB L (i + 2)) 58 with
   | error e => rw [h1] at h; cases h
   | ok a =>
     obtain ⟨ha, e1⟩ := emb_need E h1 (by decide)
     rw [h1] at h
     rw [e1]
     simp only at h ⊢
     cases h2 : needP L a 93 with
     | error e => rw [h2] at h; cases h
     | ok b =>
       obtain ⟨hb, e2⟩ := emb_need E h2 (by decide)
       rw [h2] at h
       rw [e2]
       simp only at h ⊢
       injection h with h; injection h with h3 h4; subst h3 h4
       exact ⟨hb, rfl⟩
def EmbI (p : Nat) (L : List Int) (inner inner' : Nat → Rdg Spans) : Prop := ∀ i s j, inner i = .ok (s, j) → i < j ∧ j ≤ L.length ∧ inner' (p + i) = .ok (s, p + j)
theorem emb_part {inner inner' : Nat → Rdg Spans} (hI : EmbI p L inner inner') (i : Nat) (s : Spans) (j : Nat) (h : partP' inner L i = .ok (s, j)) : i < L.length ∧ j ≤ L.length ∧ partP' inner' L' (p + i) = .ok (s, p + j) := by
 have hl : i < L.length := by
  refine pk_lt (fun e => ?_)
  unfold partP' at h
  rw [if_neg (fun x => by have := x.1; omega), if_neg (by omega), if_neg (by omega)] at h
  unfold spanP charP at h
  rw [e] at h
  simp [plainB] at h
 refine ⟨hl, ?_⟩
 unfold partP' at h ⊢
 rw [E.pk hl, show p + i + 1 = p + (i + 1) from rfl]
 have c1 := E.is (k := i + 1) hl (r := 58) (by decide) (by decide) (by decide)
 by_cases hc : Go.Proofs.YthnhbcohfoodlaaGreatDoor.pk L i = 91 ∧ Go.Proofs.YthnhbcohfoodlaaGreatDoor.pk L (i + 1) = 58
 ·rw [if_pos hc] at h
  rw [if_pos ⟨hc.1, c1.2 hc.2⟩]
  have hl1 : i + 1 < L.length := pk_lt (by omega)
  exact emb_class E hl1 _ _ h
 ·rw [if_neg hc] at h
  rw [if_neg (fun x => hc ⟨x.1, c1.1 x.2⟩)]
  by_cases h91 : Go.Proofs.YthnhbcohfoodlaaGreatDoor.pk L i = 91
  ·rw [if_pos h91] at h ⊢
   exact (hI _ _ _ h).2
  ·rw [if_neg h91] at h ⊢
   by_cases h38 : Go.Proofs.YthnhbcohfoodlaaGreatDoor.pk L i = 38 ∨ Go.Proofs.YthnhbcohfoodlaaGreatDoor.pk L i = 45
   ·rw [if_pos h38] at h ⊢
    obtain ⟨g1, g2, g3⟩ := hI _ _ _ h
    rw [E.skip (i := i + 1) hl (by omega)]
    exact ⟨g2, g3⟩
   ·rw [if_neg h38] at h ⊢
    cases h1 : spanP L i with
    | error e => rw [h1] at h; cases h
    | ok q =>
      obtain ⟨x, a⟩ := q
      obtain ⟨ha, e1⟩ := emb_span E _ _ _ h1
      rw [h1] at h
      rw [e1]
      simp only at h ⊢
      injection h with h; injection h with h3 h4; subst h3 h4
      exact ⟨ha, rfl⟩
theorem emb_parts {inner inner' : Nat → Rdg Spans} (hI : EmbI p L inner inner') : ∀ (f f' i : Nat) (cur s : Spans) (j : Nat), f ≤ f' → i ≤ L.length → partsP inner L f i cur = .ok (s, j) → j ≤ L.length ∧ partsP inner' L' f' (p + i) cur = .ok (s, p + j) := by
 intro f
 induction f with
 | zero => intro f' i cur s j _ _ h; unfold partsP at h; cases h
 | succ f ih =>
   intro f' i cur s j hf hi h
   obtain ⟨f', rfl⟩ : ∃ g, f' = g + 1 := ⟨f' - 1, by omega⟩
   rw [partsP] at h ⊢
   by_cases h93 : Go.Proofs.YthnhbcohfoodlaaGreatDoor.pk L (skipP L i) = 93
   ·have hl : skipP L i < L.length := pk_lt (by omega)
    rw [if_pos h93] at h
    rw [E.skip hi hl, E.pk hl, if_pos h93]
    injection h with h; injection h with h3 h4; subst h3 h4
    exact ⟨hl, rfl⟩
   ·rw [if_neg h93] at h
    cases h1 : partP' inner L (skipP L i) with
    | error e => rw [h1] at h; cases h
    | ok q =>
      obtain ⟨t, a⟩ := q
      obtain ⟨hl, ha, e1⟩ := emb_part E hI _ _ _ h1
      rw [h1] at h
      rw [E.skip hi hl, E.pk hl, if_neg h93, e1]
      simp only at h ⊢
      by_cases hw : (opP (opOf (Go.Proofs.YthnhbcohfoodlaaGreatDoor.pk L (skipP L i))) cur t).2 ≠ 0
      ·rw [if_pos hw] at h; cases h
      ·rw [if_neg hw] at h ⊢
       exact ih f' a _ _ _ (by omega) ha h
theorem emb_set (hL : RunesOk L) : ∀ n, EmbI p L (setP' L n) (setP' L' n) := by
 intro n
 induction n with
 | zero => intro i s j h; unfold setP' at h; cases h
 | succ n ih =>
   intro i s j h
   refine ⟨(setP_ok hL (n + 1) i s j h).1, ?_⟩
   rw [setP'] at h ⊢
   cases h1 : needP L i 91 with
   | error e => rw [h1] at h; cases h
   | ok a =>
     obtain ⟨ha, e1⟩ := emb_need E h1 (by decide)
     rw [h1] at h
     rw [e1]
     simp only at h ⊢
     have c1 := E.is ha (r := 94) (by decide) (by decide) (by decide)
     have hst : (if Go.Proofs.YthnhbcohfoodlaaGreatDoor.pk L' (p + a) = 94 then p + a + 1 else p + a) = p + (if Go.Proofs.YthnhbcohfoodlaaGreatDoor.pk L a = 94 then a + 1 else a) := by
      by_cases h94 : Go.Proofs.YthnhbcohfoodlaaGreatDoor.pk L a = 94
      ·rw [if_pos h94, if_pos (c1.2 h94)]; rfl
      ·rw [if_neg h94, if_neg (fun x => h94 (c1.1 x))]
     rw [hst]
     have hst2 : (if Go.Proofs.YthnhbcohfoodlaaGreatDoor.pk L a = 94 then a + 1 else a) ≤ L.length := by
      split
      ·rename_i h94; exact pk_lt (by omega)
      ·exact ha
     cases h2 : partsP (setP' L n) L (L.length + 1) (if Go.Proofs.YthnhbcohfoodlaaGreatDoor.pk L a = 94 then a + 1 else a) [] with
     | error e => rw [h2] at h; cases h
     | ok q =>
       obtain ⟨cur, k⟩ := q
       obtain ⟨hk, e2⟩ := emb_parts E ih _ (L'.length + 1) _ _ _ _ (by have := E.len; omega) hst2 h2
       rw [h2] at h
       rw [e2]
       simp only at h ⊢
       by_cases h94 : Go.Proofs.YthnhbcohfoodlaaGreatDoor.pk L a = 94
       ·rw [if_pos h94] at h
        rw [if_pos (c1.2 h94)]
        by_cases hw : (opP 94 cur []).2 ≠ 0
        ·rw [if_pos hw] at h; cases h
        ·rw [if_neg hw] at h ⊢
         injection h with h; injection h with h3 h4; subst h3 h4
         exact ⟨hk, rfl⟩
       ·rw [if_neg h94] at h
        rw [if_neg (fun x => h94 (c1.1 x))]
        injection h with h; injection h with h3 h4; subst h3 h4
        exact ⟨hk, rfl⟩
end
end Go.Proofs.YthnhbcohfoodlaaGreatDoor

namespace Go.Proofs.YthnhbcohfoodlaaGreatDoor
open Go.RowKit
theorem spaceF_enough (L : List Int) : ∀ f g i, L.length < f + i → L.length < g + i → spaceF L f i = spaceF L g i := by
 have key : ∀ g i, L.length < i → spaceF L g i = skipP L i := by
  intro g i h
  cases g with
  | zero => rfl
  | succ g =>
    rw [spaceF, if_neg]
    have e : skipP L i = i := runFrom_out (fun h2 => absurd h2 (by omega))
    rw [e, pk_end (by omega)]
    decide
 intro f
 induction f with
 | zero => intro g i h1 h2; rw [key 0 i (by omega), key g i (by omega)]
 | succ f ih =>
   intro g i h1 h2
   cases g with
   | zero => rw [key 0 i (by omega), key (f + 1) i (by omega)]
   | succ g =>
     rw [spaceF, spaceF]
     by_cases h35 : pk L (skipP L i) = 35
     ·rw [if_pos h35, if_pos h35]
      have hl : skipP L i < L.length := pk_lt (by omega)
      have h3 := skipP_ge L i
      have h4 : skipP L i + 1 ≤ runFrom remB L (skipP L i) := by rw [runFrom_in hl (by rw [h35]; rfl)]; exact runFrom_ge _ _ _
      exact ih g _ (by omega) (by omega)
     ·rw [if_neg h35, if_neg h35]
theorem rem_on {L : List Int} {k : Nat} (h35 : pk L k = 35) : k < L.length ∧ k + 1 ≤ runFrom remB L k := by
 have hl : k < L.length := pk_lt (by omega)
 exact ⟨hl, by rw [runFrom_in hl (by rw [h35]; rfl)]; exact runFrom_ge _ _ _⟩
theorem spaceP_eq (L : List Int) (i : Nat) : spaceP L i = if pk L (skipP L i) = 35 then spaceP L (runFrom remB L (skipP L i)) else skipP L i := by
 show spaceF L (L.length + 1) i = _
 rw [spaceF]
 by_cases h35 : pk L (skipP L i) = 35
 ·rw [if_pos h35, if_pos h35]
  have := (rem_on h35).2
  exact spaceF_enough L _ _ _ (by omega) (by omega)
 ·rw [if_neg h35, if_neg h35]
end Go.Proofs.YthnhbcohfoodlaaGreatDoor
