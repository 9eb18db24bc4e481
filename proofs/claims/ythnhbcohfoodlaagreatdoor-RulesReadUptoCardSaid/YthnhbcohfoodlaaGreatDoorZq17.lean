/- PartWalk + PartAll + RulesP + RulesMono + SpaceEq + RulesEmb -/
import Derived.Test.YthnhbcohfoodlaaGreatDoorZq11
import Derived.Deep.RegionWith
import Derived.Test.YthnhbcohfoodlaaGreatDoorZq12
import Derived.Test.YthnhbcohfoodlaaGreatDoorZq7
import Derived.Test.YthnhbcohfoodlaaGreatDoorZq8
set_option maxHeartbeats 1600000
set_option maxRecDepth 100000
namespace Go.Proofs.YthnhbcohfoodlaaGreatDoor
open Go.RowKit
theorem ya {w : World} {g : Nat} {t : TypeId} {cs : Array Value} (h : aM w g t cs) : aM w.drew g t cs := h
theorem EX (name : ByteArray) (set : ag) (left right : bp) (dir : Int) (A : Option Addr) (n c : Nat) (L1 L2 L3 R1 R2 R3 : Option Addr) (a1 a2 a3 x1 x2 x3 b1 b2 b3 y1 y2 y3 : Nat) (w : World) (hs : kH w w.heap.size A n set) (hn : n ≤ 9223372036854775807) :
    Calls Tryz.prog 70 #[.agg #[.int .i64 1, .string name, .slice A n c, .int .i64 dir, .bool left.start, .bool left.fin, .slice L1 a1 x1, .slice L2 a2 x2, .slice L3 a3 x3, .int .i64 left.af, .bool right.start, .bool right.fin, .slice R1 b1 y1, .slice R2 b2 y2, .slice R3 b3 y3, .int .i64 right.af]] w fun e w' => e = .returned (.int .i64 (if cm name = true then cU set else 7)) ∧ Below w.heap.size w w' := by
 have HB := Lib.hid ((Below.refl w.heap.size w).alloc (Nat.le_refl _) (.cells #[.int .i64 1, .string name, .slice A n c, .int .i64 dir, .bool left.start, .bool left.fin, .slice L1 a1 x1, .slice L2 a2 x2, .slice L3 a3 x3, .int .i64 left.af, .bool right.start, .bool right.fin, .slice R1 b1 y1, .slice R2 b2 y2, .slice R3 b3 y3, .int .i64 right.af] 98));have HS := Lib.hid (kg hs (.cells #[.int .i64 1, .string name, .slice A n c, .int .i64 dir, .bool left.start, .bool left.fin, .slice L1 a1 x1, .slice L2 a2 x2, .slice L3 a3 x3, .int .i64 left.af, .bool right.start, .bool right.fin, .slice R1 b1 y1, .slice R2 b2 y2, .slice R3 b3 y3, .int .i64 right.af] 98));clear hs;cases hr : cm name
 ·go_enter Tryz.func70, Tryz.ntmps70;go_wp2_with (go_at_call 24; refine (fW _ _).mono ?_; rintro e w' ⟨rfl, rfl⟩; rw [hr]);go_ret;exact ⟨rfl, HB.out⟩
 go_enter Tryz.func70, Tryz.ntmps70;go_wp2_with (go_at_call 24; refine (fW _ _).mono ?_; rintro e w' ⟨rfl, rfl⟩; rw [hr]);refine (kC A n c set _ hn HS.out).mono ?_;rintro e w' ⟨rfl, hb⟩;go_wp2_with fail;go_ret;exact ⟨rfl, HB.out.trans (hb.mono (by simp))⟩
theorem xb (name : ByteArray) (set : ag) (left right : bp) (dir : Int) (A : Option Addr) (n c : Nat) (L1 L2 L3 R1 R2 R3 : Option Addr) (a1 a2 a3 x1 x2 x3 b1 b2 b3 y1 y2 y3 : Nat) (w : World) (hs : kH w w.heap.size A n set) (hn : n ≤ 9223372036854775807) :
    Calls Tryz.prog 70 #[.agg #[.int .i64 3, .string name, .slice A n c, .int .i64 dir, .bool left.start, .bool left.fin, .slice L1 a1 x1, .slice L2 a2 x2, .slice L3 a3 x3, .int .i64 left.af, .bool right.start, .bool right.fin, .slice R1 b1 y1, .slice R2 b2 y2, .slice R3 b3 y3, .int .i64 right.af]] w fun e w' => e = .returned (.int .i64 (cU set)) ∧ Below w.heap.size w w' := by
 have HB := Lib.hid ((Below.refl w.heap.size w).alloc (Nat.le_refl _) (.cells #[.int .i64 3, .string name, .slice A n c, .int .i64 dir, .bool left.start, .bool left.fin, .slice L1 a1 x1, .slice L2 a2 x2, .slice L3 a3 x3, .int .i64 left.af, .bool right.start, .bool right.fin, .slice R1 b1 y1, .slice R2 b2 y2, .slice R3 b3 y3, .int .i64 right.af] 98));have HS := Lib.hid (kg hs (.cells #[.int .i64 3, .string name, .slice A n c, .int .i64 dir, .bool left.start, .bool left.fin, .slice L1 a1 x1, .slice L2 a2 x2, .slice L3 a3 x3, .int .i64 left.af, .bool right.start, .bool right.fin, .slice R1 b1 y1, .slice R2 b2 y2, .slice R3 b3 y3, .int .i64 right.af] 98));clear hs;go_enter Tryz.func70, Tryz.ntmps70;go_wp2_with fail;refine (kC A n c set _ hn HS.out).mono ?_;rintro e w' ⟨rfl, hb⟩;go_wp2_with fail;go_ret;exact ⟨rfl, HB.out.trans (hb.mono (by simp))⟩
theorem Aj (name : ByteArray) (left right : bp) (kind dir : Int) (A : Option Addr) (n c : Nat) (L1 L2 L3 R1 R2 R3 : Option Addr) (a1 a2 a3 x1 x2 x3 b1 b2 b3 y1 y2 y3 : Nat) (w : World) (k1 : kind ≠ 1) (k2 : kind ≠ 2) (k3 : kind ≠ 3) (k4 : kind ≠ 4) :
    Calls Tryz.prog 70 #[.agg #[.int .i64 kind, .string name, .slice A n c, .int .i64 dir, .bool left.start, .bool left.fin, .slice L1 a1 x1, .slice L2 a2 x2, .slice L3 a3 x3, .int .i64 left.af, .bool right.start, .bool right.fin, .slice R1 b1 y1, .slice R2 b2 y2, .slice R3 b3 y3, .int .i64 right.af]] w fun e w' => e = .returned (.int .i64 (1)) ∧ Below w.heap.size w w' := by
 have HB := Lib.hid ((Below.refl w.heap.size w).alloc (Nat.le_refl _) (.cells #[.int .i64 kind, .string name, .slice A n c, .int .i64 dir, .bool left.start, .bool left.fin, .slice L1 a1 x1, .slice L2 a2 x2, .slice L3 a3 x3, .int .i64 left.af, .bool right.start, .bool right.fin, .slice R1 b1 y1, .slice R2 b2 y2, .slice R3 b3 y3, .int .i64 right.af] 98));have e1 : (kind == 1) = false := (by simpa using k1);have e2 : (kind == 2) = false := (by simpa using k2);have e3 : (kind == 3) = false := (by simpa using k3);have e4 : (kind == 4) = false := (by simpa using k4);clear k1 k2 k3 k4;go_enter Tryz.func70, Tryz.ntmps70;go_wp2_with fail;go_ret;exact ⟨rfl, HB.out⟩
theorem Co (name : ByteArray) (left right : bp) (dir : Int) (A : Option Addr) (n c : Nat) (L1 L2 L3 R1 R2 R3 : Option Addr) (a1 a2 a3 x1 x2 x3 b1 b2 b3 y1 y2 y3 : Nat) (w : World)  :
    Calls Tryz.prog 70 #[.agg #[.int .i64 4, .string name, .slice A n c, .int .i64 dir, .bool left.start, .bool left.fin, .slice L1 a1 x1, .slice L2 a2 x2, .slice L3 a3 x3, .int .i64 left.af, .bool right.start, .bool right.fin, .slice R1 b1 y1, .slice R2 b2 y2, .slice R3 b3 y3, .int .i64 right.af]] w fun e w' => e = .returned (.int .i64 (if gm name = true then 0 else 7)) ∧ Below w.heap.size w w' := by
 have HB := Lib.hid ((Below.refl w.heap.size w).alloc (Nat.le_refl _) (.cells #[.int .i64 4, .string name, .slice A n c, .int .i64 dir, .bool left.start, .bool left.fin, .slice L1 a1 x1, .slice L2 a2 x2, .slice L3 a3 x3, .int .i64 left.af, .bool right.start, .bool right.fin, .slice R1 b1 y1, .slice R2 b2 y2, .slice R3 b3 y3, .int .i64 right.af] 98));have c1 : (w.alloc (.cells #[.int .i64 4, .string name, .slice A n c, .int .i64 dir, .bool left.start, .bool left.fin, .slice L1 a1 x1, .slice L2 a2 x2, .slice L3 a3 x3, .int .i64 left.af, .bool right.start, .bool right.fin, .slice R1 b1 y1, .slice R2 b2 y2, .slice R3 b3 y3, .int .i64 right.af] 98)).cell? ⟨w.heap.size, 1, none⟩ = some (.string name) := (aM.new _ _ _).cell 1;have hlt : w.heap.size < (w.alloc (.cells #[.int .i64 4, .string name, .slice A n c, .int .i64 dir, .bool left.start, .bool left.fin, .slice L1 a1 x1, .slice L2 a2 x2, .slice L3 a3 x3, .int .i64 left.af, .bool right.start, .bool right.fin, .slice R1 b1 y1, .slice R2 b2 y2, .slice R3 b3 y3, .int .i64 right.af] 98)).heap.size := (by simp);cases hr : gm name
 all_goals
   have HR := Lib.hid hr
   clear hr
   go_enter Tryz.func70, Tryz.ntmps70
   go_wp2_with fail
   generalize w.alloc (.cells #[.int .i64 4, .string name, .slice A n c, .int .i64 dir, .bool left.start, .bool left.fin, .slice L1 a1 x1, .slice L2 a2 x2, .slice L3 a3 x3, .int .i64 left.af, .bool right.start, .bool right.fin, .slice R1 b1 y1, .slice R2 b2 y2, .slice R3 b3 y3, .int .i64 right.af] 98) = W0 at *
   go_region_with (first | (go_at_call 97; refine (lG _).mono ?_; rintro e w' ⟨rfl, rfl⟩) | (go_at_call 96; refine (xq _ name _ HR.out _ (ya (aM.new _ _ _))).mono ?_; rintro e w' ⟨rfl, rfl⟩))
   all_goals
     go_wp2_with fail
     go_ret
     exact ⟨rfl, below_drewN (HB.out.alloc HB.out.size _) _⟩
theorem ve (p : aZ) (A : Option Addr) (n c : Nat) (L1 L2 L3 R1 R2 R3 : Option Addr) (a1 a2 a3 x1 x2 x3 b1 b2 b3 y1 y2 y3 : Nat) (w : World) (hs : kH w w.heap.size A n p.set) (hn : n ≤ maxLen) (l1 : bK w w.heap.size L1 a1 p.left.before) (l2 : bK w w.heap.size L2 a2 p.left.source) (l3 : bK w w.heap.size L3 a3 p.left.after) (oW : a1 ≤ maxLen) (mq : a2 ≤ maxLen) (oX : a3 ≤ maxLen) (r1 : bK w w.heap.size R1 b1 p.right.before) (r2 : bK w w.heap.size R2 b2 p.right.source) (r3 : bK w w.heap.size R3 b3 p.right.after) (oV : b1 ≤ maxLen) (mE : b2 ≤ maxLen) (oN : b3 ≤ maxLen)  :
    Calls Tryz.prog 70 #[.agg #[.int .i64 p.kind, .string p.name, .slice A n c, .int .i64 p.dir, .bool p.left.start, .bool p.left.fin, .slice L1 a1 x1, .slice L2 a2 x2, .slice L3 a3 x3, .int .i64 p.left.af, .bool p.right.start, .bool p.right.fin, .slice R1 b1 y1, .slice R2 b2 y2, .slice R3 b3 y3, .int .i64 p.right.af]] w fun e w' => e = .returned (.int .i64 (gf p)) ∧ Below w.heap.size w w' := by
 obtain ⟨kind, name, set, dir, left, right⟩ := p;dsimp only at *;unfold gf;dsimp only;by_cases k1 : kind = 1
 ·subst k1;rw [if_pos rfl];exact EX name set left right dir A n c L1 L2 L3 R1 R2 R3 a1 a2 a3 x1 x2 x3 b1 b2 b3 y1 y2 y3 w hs (by unfold maxLen at hn; omega)
 by_cases k3 : kind = 3
 ·subst k3;rw [if_neg k1, if_pos rfl];exact xb name set left right dir A n c L1 L2 L3 R1 R2 R3 a1 a2 a3 x1 x2 x3 b1 b2 b3 y1 y2 y3 w hs (by unfold maxLen at hn; omega)
 by_cases k4 : kind = 4
 ·subst k4;rw [if_neg k1, if_neg k3, if_pos rfl];exact Co name left right dir A n c L1 L2 L3 R1 R2 R3 a1 a2 a3 x1 x2 x3 b1 b2 b3 y1 y2 y3 w
 by_cases k2 : kind = 2
 ·subst k2;rw [if_neg k1, if_neg k3, if_neg k4, if_pos rfl];by_cases hd : dir < 1 ∨ 3 < dir
  ·have e : aV dir left right = 1 := if_pos hd;rw [e];exact DI name left right dir A n c L1 L2 L3 R1 R2 R3 a1 a2 a3 x1 x2 x3 b1 b2 b3 y1 y2 y3 w hd
  rcases (show dir = 1 ∨ dir = 2 ∨ dir = 3 by omega) with rfl | rfl | rfl;exact zG name left right A n c L1 L2 L3 R1 R2 R3 a1 a2 a3 x1 x2 x3 b1 b2 b3 y1 y2 y3 w l1 l2 l3 oW mq oX r1 r2 r3 oV mE oN;exact zP name left right A n c L1 L2 L3 R1 R2 R3 a1 a2 a3 x1 x2 x3 b1 b2 b3 y1 y2 y3 w l1 l2 l3 oW mq oX r1 r2 r3 oV mE oN;exact zI name left right A n c L1 L2 L3 R1 R2 R3 a1 a2 a3 x1 x2 x3 b1 b2 b3 y1 y2 y3 w l1 l2 l3 oW mq oX r1 r2 r3 oV mE oN
 rw [if_neg k1, if_neg k3, if_neg k4, if_neg k2];exact Aj name left right kind dir A n c L1 L2 L3 R1 R2 R3 a1 a2 a3 x1 x2 x3 b1 b2 b3 y1 y2 y3 w k1 k2 k3 k4
def jx (r : Int) : Bool := decide (0 ≤ r) && !decide (r = 10)
def ec (L : List Int) : Nat → Nat → Nat
  | 0, i => aG L i
  | f + 1, i => if pk L (aG L i) = 35 then ec L f (aq jx L (aG L i)) else aG L i
def aj (L : List Int) (i : Nat) : Nat := ec L (L.length + 1) i
def eN (r : Int) : Bool := (decide (97 ≤ r) && decide (r ≤ 122)) || decide (r = 95)
def oD (r : Int) : Bool := decide (48 ≤ r) && decide (r ≤ 57)
def aI (L : List Int) (i : Nat) : Nat := if eN (pk L i) = true then aq (fun r => eN r || oD r) L i else i
def cI (L : List Int) (i : Nat) : ByteArray := runesBytes (ay L i (aI L i))
def cQ (L : List Int) (i : Nat) : fH ByteArray := if cm (cI L i) = true then .ok (cI L i, aI L i) else .error (7, i)
def gP (r : Int) : Bool := decide (0 ≤ r) && !decide (r = 39)
def bF : ByteArray := ⟨#[]⟩
def cC (x : Int) : aE := ⟨1, x, [], bF⟩
def eT (L : List Int) (i : Nat) : fH (List aE) :=
  if pk L (aq gP L (i + 1)) = 39 then .ok ((ay L (i + 1) (aq gP L (i + 1))).map cC, aq gP L (i + 1) + 1) else .error (2, aq gP L (i + 1))
def bq (L : List Int) (a : Nat) (out : List aE) (cur : Int) : Except (Int × Nat) (Option ((List aE × Int) × Nat)) :=
  if pk L a = 124 then (if 0 ≤ cur then .error (5, a) else .ok (some ((out, (out.length : Int)), a + 1)))
  else if pk L a = 91 then match aR L 20 a with | .error e => .error e | .ok (s, j) => .ok (some ((out ++ [⟨2, 0, s, bF⟩], cur), j))
  else if pk L a = 36 ∧ eN (pk L (a + 1)) = true then match cQ L (a + 1) with | .error e => .error e | .ok (s, j) => .ok (some ((out ++ [⟨3, 0, [], s⟩], cur), j))
  else if pk L a = 39 then match eT L a with | .error e => .error e | .ok (l, j) => .ok (some ((out ++ l, cur), j))
  else if pk L a = 92 ∨ bL (pk L a) = true then match bU L a with | .error e => .error e | .ok (x, j) => if bT x = true then .ok (some ((out ++ [cC x], cur), j)) else .error (3, a)
  else .ok none
def cg (L : List Int) : Nat → Nat → List aE → Int → fH (List aE × Int)
  | 0, i, _, _ => .error (2, i)
  | f + 1, i, out, cur => match bq L (aj L i) out cur with
    | .error e => .error e
    | .ok none => .ok ((out, cur), aj L i)
    | .ok (some ((o, c), j)) => if 20 < o.length then .error (5, aj L i) else cg L f j o c
def bA (L : List Int) (i : Nat) : fH (List aE × Int) := cg L (L.length + 1) i [] (-1)
def cM (L : List Int) (start : Bool) (a : Nat) : fH (List aE × List aE × Int) :=
  match bA L a with
  | .error e => .error e
  | .ok ((l, c), j) =>
    if pk L j = 123 then (if 0 ≤ c then .error (8, a) else match bA L (j + 1) with | .error e => .error e | .ok ((l2, c2), j2) => .ok ((l, l2, c2), j2))
    else if start = true then .error (2, j) else .ok (([], l, c), j)
def dx (L : List Int) (j : Nat) : fH (List aE × Bool) :=
  if pk L j = 125 then match bA L (j + 1) with
    | .error e => .error e
    | .ok ((l, c), k) => if 0 ≤ c then .error (8, j + 1) else if pk L k = 36 then .ok ((l, true), k + 1) else .ok ((l, false), k)
  else .ok (([], false), j)
def cj (L : List Int) (i : Nat) : fH bp :=
  match cM L (decide (pk L (aj L i) = 94)) (if pk L (aj L i) = 94 then aj L i + 1 else aj L i) with
  | .error e => .error e
  | .ok ((b, s, c), j) => match dx L j with
    | .error e => .error e
    | .ok ((a, fin), k) => .ok (⟨decide (pk L (aj L i) = 94), fin, b, s, a, c⟩, aj L k)
def cl (L : List Int) (i : Nat) : fH Int :=
  if pk L i = 62 then .ok (1, i + 1) else if pk L i = 60 ∧ pk L (i + 1) = 62 then .ok (3, i + 2)
  else match aH L i 60 with | .error e => .error e | .ok j => .ok (2, j)
def bg : bp := ⟨false, false, [], [], [], 0⟩
def fB (L : List Int) (i : Nat) : fH aZ :=
  match cj L i with
  | .error e => .error e
  | .ok (l, j) => match cl L j with
    | .error e => .error e
    | .ok (d, k) => match cj L k with
      | .error e => .error e
      | .ok (r, m) => if gf ⟨2, bF, [], d, l, r⟩ ≠ 0 then .error (gf ⟨2, bF, [], d, l, r⟩, i) else .ok (⟨2, bF, [], d, l, r⟩, m)
def fo (L : List Int) (i : Nat) : fH aZ :=
  match aH L (i + 1) 58 with
  | .error e => .error e
  | .ok j =>
    if pk L (aj L j) = 91 then match aR L 20 (aj L j) with | .error e => .error e | .ok (s, k) => .ok (⟨3, bF, s, 0, bg, bg⟩, k)
    else if gm (cI L (aj L j)) = true then .ok (⟨4, cI L (aj L j), [], 0, bg, bg⟩, aI L (aj L j)) else .error (7, aj L j)
def jt (L : List Int) (i : Nat) : fH aZ :=
  match cQ L (i + 1) with
  | .error e => .error e
  | .ok (s, j) => match aH L (aj L j) 61 with
    | .error e => .error e
    | .ok k => match aR L 20 (aj L k) with | .error e => .error e | .ok (t, m) => .ok (⟨1, s, t, 0, bg, bg⟩, m)
def dy (L : List Int) (i : Nat) : fH aZ :=
  if pk L i = 58 then fo L i
  else if pk L i = 36 ∧ pk L (aj L (aI L (i + 1))) = 61 then jt L i
  else fB L i
def ek (L : List Int) : Nat → Nat → List aZ → Except (Int × Nat) (List aZ)
  | 0, i, _ => .error (2, i)
  | f + 1, i, l =>
    if pk L (aj L i) < 0 then .ok l
    else if l.length = 200 then .error (5, aj L i)
    else match dy L (aj L i) with
      | .error e => .error e
      | .ok (p, j) => match aH L (aj L j) 59 with
        | .error e => .error e
        | .ok k => ek L f k (l ++ [p])
def fD (L : List Int) : List aZ × (Int × Int) :=
  if 16000 < L.length then ([], (4, 0))
  else match ek L (L.length + 1) 0 [] with
    | .error (e, p) => ([], (e, (p : Int)))
    | .ok l => (l, (0, 0))
theorem CL (L : List Int) : ∀ f i, i ≤ ec L f i := by
 intro f;induction f with
 | zero => exact fun i => cL L i
 | succ f ih =>
  intro i;rw [ec];split;exact Nat.le_trans (cL L i) (Nat.le_trans (ei _ _ _) (ih _));exact cL L i
theorem jY {L : List Int} {i : Nat} (h : i ≤ L.length) : aG L i ≤ L.length := (dA h).2
theorem Cy (L : List Int) : ∀ f i, i ≤ L.length → ec L f i ≤ L.length := by
 intro f;induction f with
 | zero => exact fun i h => jY h
 | succ f ih =>
  intro i h;rw [ec];split;exact ih _ (dA (jY h)).2;exact jY h
theorem b7 (L : List Int) (i : Nat) : i ≤ aj L i := CL L _ i
theorem gn {L : List Int} {i : Nat} (h : i ≤ L.length) : aj L i ≤ L.length := Cy L _ i h
theorem ri (L : List Int) (i : Nat) : i ≤ aI L i := by
 unfold aI;split;exact ei _ _ _;exact Nat.le_refl _
theorem dZ {L : List Int} {i : Nat} (h : i ≤ L.length) : aI L i ≤ L.length := by
 unfold aI;split;exact (dA h).2;exact h
theorem jk {L : List Int} {i j : Nat} {s : ByteArray} (h : cQ L i = .ok (s, j)) : i < j ∧ cm s = true ∧ s = cI L i ∧ j = aI L i := by
 unfold cQ at h;split at h
 ·rename_i hn;injection h with h;injection h with h1 h2;subst h1 h2;refine ⟨?_, hn, rfl, rfl⟩;rcases Nat.lt_or_ge i (aI L i) with hl | hl;exact hl;have he : aI L i = i := Nat.le_antisymm hl (ri L i);have ht : cI L i = runesBytes [] := by
   unfold cI ay;rw [he, Nat.sub_self];rfl
  rw [ht] at hn;exact absurd hn (by unfold cm; simp [show (runesBytes []).size = 0 from rfl])
 cases h
theorem sA {L : List Int} {i j : Nat} {l : List aE} (h : eT L i = .ok (l, j)) : i + 1 < j ∧ j ≤ L.length := by
 unfold eT at h;split at h
 ·rename_i hn;injection h with h;injection h with h1 h2;have hlt := aS (L := L) (i := aq gP L (i + 1)) (by omega);have := ei gP L (i + 1);omega
 cases h
theorem nW {L : List Int} (hL : bY L) {a j : Nat} {out o : List aE} {cur c : Int} (h : bq L a out cur = .ok (some ((o, c), j))) : a < j ∧ out.length ≤ o.length := by
 unfold bq at h;split at h
 ·split at h
  ·cases h
  injection h with h; injection h with h; injection h with h1 h2; injection h1 with h1 h3;subst h1 h2;exact ⟨by omega, Nat.le_refl _⟩
 split at h
 ·split at h
  ·cases h
  rename_i s j' hs;injection h with h; injection h with h; injection h with h1 h2; injection h1 with h1 h3;subst h1 h2;exact ⟨(iQ hL 20 _ _ _ hs).1, by simp⟩
 split at h
 ·split at h
  ·cases h
  rename_i s j' hs;injection h with h; injection h with h; injection h with h1 h2; injection h1 with h1 h3;subst h1 h2;have := (jk hs).1;exact ⟨by omega, by simp⟩
 split at h
 ·split at h
  ·cases h
  rename_i s j' hs;injection h with h; injection h with h; injection h with h1 h2; injection h1 with h1 h3;subst h1 h2;have := (sA hs).1;exact ⟨by omega, by simp⟩
 split at h
 ·split at h
  ·cases h
  rename_i x j' hs;split at h
  ·injection h with h; injection h with h; injection h with h1 h2; injection h1 with h1 h3;subst h1 h2;exact ⟨(lO hL hs).1, by simp⟩
  cases h
 injection h with h; cases h
theorem t9 (L : List Int) : ∀ f g i, L.length < f + i → L.length < g + i → ec L f i = ec L g i := by
 have key : ∀ g i, L.length < i → ec L g i = aG L i := by
  intro g i h;cases g with
  | zero => rfl
  | succ g =>
   rw [ec, if_neg];have e : aG L i = i := bw (fun h2 => absurd h2 (by omega));rw [e, lP (by omega)];decide
 intro f;induction f with
 | zero => intro g i h1 h2; rw [key 0 i (by omega), key g i (by omega)]
 | succ f ih =>
  intro g i h1 h2;cases g with
  | zero => rw [key 0 i (by omega), key (f + 1) i (by omega)]
  | succ g =>
   rw [ec, ec];by_cases kZ : pk L (aG L i) = 35
   ·rw [if_pos kZ, if_pos kZ];have hl : aG L i < L.length := aS (by omega);have h3 := cL L i;have h4 : aG L i + 1 ≤ aq jx L (aG L i) := (by rw [bD hl (by rw [kZ]; rfl)]; exact ei _ _ _);exact ih g _ (by omega) (by omega)
   rw [if_neg kZ, if_neg kZ]
theorem vU {L : List Int} {k : Nat} (kZ : pk L k = 35) : k < L.length ∧ k + 1 ≤ aq jx L k := by
 have hl : k < L.length := aS (by omega);exact ⟨hl, by rw [bD hl (by rw [kZ]; rfl)]; exact ei _ _ _⟩
theorem kj (L : List Int) (i : Nat) : aj L i = if pk L (aG L i) = 35 then aj L (aq jx L (aG L i)) else aG L i := by
 show ec L (L.length + 1) i = _;rw [ec];by_cases kZ : pk L (aG L i) = 35
 ·rw [if_pos kZ, if_pos kZ];have := (vU kZ).2;exact t9 L _ _ _ (by omega) (by omega)
 rw [if_neg kZ, if_neg kZ]
structure Cl (p : Nat) (L L' : List Int) : Prop where
  here : ∀ k, k < L.length → L'[p + k]? = L[k]?
  stop : pk L' (p + L.length) = 10 ∨ pk L' (p + L.length) = 32 ∨ pk L' (p + L.length) = -1
def Cv {α : Type} (p : Nat) (L : List Int) (r r' : fH α) : Prop := ∀ v j, r = .ok (v, j) → j ≤ L.length ∧ r' = .ok (v, p + j)
section
variable {p : Nat} {L L' : List Int} (E : Cl p L L')
include E
theorem Cl.pk {k : Nat} (hk : k < L.length) : pk L' (p + k) = pk L k := by
 unfold Go.Proofs.YthnhbcohfoodlaaGreatDoor.pk;rw [E.here k hk]
theorem Cl.is {k : Nat} (hk : k ≤ L.length) {r : Int} (h1 : r ≠ 10) (h2 : r ≠ -1) (h3 : r ≠ 32) : Go.Proofs.YthnhbcohfoodlaaGreatDoor.pk L' (p + k) = r ↔ Go.Proofs.YthnhbcohfoodlaaGreatDoor.pk L k = r := by
 rcases Nat.lt_or_ge k L.length with hl | hl
 ·rw [E.pk hl]
 have hk : k = L.length := (by omega);subst hk;rw [lP (Nat.le_refl _)];rcases E.stop with e | e | e <;> rw [e] <;> constructor <;> intro h' <;> omega
theorem Cl.lt {k : Nat} (hk : k < L.length) : p + k < L'.length := by
 have := E.here k hk;rw [List.getElem?_eq_getElem hk] at this;exact (List.getElem?_eq_some_iff.1 this).1
theorem Cl.len : L.length ≤ L'.length := by
 rcases Nat.eq_zero_or_pos L.length with h | h;omega;have := E.lt (k := L.length - 1) (by omega);omega
theorem Cl.run {q : Int → Bool} : ∀ (d i : Nat), L.length - i = d → i ≤ L.length → (aq q L i < L.length ∨ q (Go.Proofs.YthnhbcohfoodlaaGreatDoor.pk L' (p + L.length)) = false) → aq q L' (p + i) = p + aq q L i := by
 intro d;induction d with
 | zero =>
  intro i hd hi hq;have e : i = L.length := (by omega);subst e;have e2 : aq q L L.length = L.length := bw (fun h => absurd h (Nat.lt_irrefl _));rw [e2] at hq ⊢;rcases hq with hq | hq;omega;exact bw (fun _ => hq)
 | succ d ih =>
  intro i hd hi hq;have hl : i < L.length := (by omega);cases hv : q (Go.Proofs.YthnhbcohfoodlaaGreatDoor.pk L i) with
  | true =>
   rw [bD hl hv] at hq ⊢;rw [bD (E.lt hl) (by rw [E.pk hl]; exact hv), Nat.add_assoc];exact ih (i + 1) (by omega) (by omega) hq
  | false => rw [bw (fun _ => hv), bw (fun _ => by rw [E.pk hl]; exact hv)]
theorem Cl.IB {q : Int → Bool} (h1 : q 10 = false) (h2 : q 32 = false) (h3 : q (-1) = false) {i : Nat} (hi : i ≤ L.length) : aq q L' (p + i) = p + aq q L i := by
 refine E.run _ i rfl hi (.inr ?_);rcases E.stop with e | e | e <;> rw [e] <;> assumption
theorem Cl.skip {i : Nat} (hi : i ≤ L.length) (h : aG L i < L.length) : aG L' (p + i) = p + aG L i := E.run _ i rfl hi (.inl h)
theorem Cl.text {i j : Nat} (hj : j ≤ L.length) : ay L' (p + i) (p + j) = ay L i j := by
 unfold ay;rw [show p + j - (p + i) = j - i by omega];apply List.ext_getElem?;intro k;rcases Nat.lt_or_ge k (j - i) with hk | hk
 ·rw [List.getElem?_take_of_lt hk, List.getElem?_take_of_lt hk, List.getElem?_drop, List.getElem?_drop, Nat.add_assoc];exact E.here _ (by omega)
 rw [List.getElem?_take_eq_none hk, List.getElem?_take_eq_none hk]
theorem ie {i j : Nat} {r : Int} (h : aH L i r = .ok j) (hr : r ≠ -1) : j ≤ L.length ∧ aH L' (p + i) r = .ok (p + j) := by
 obtain ⟨rfl, hp⟩ := dX h;have hl : i < L.length := aS (by rw [hp]; exact hr);refine ⟨hl, ?_⟩;rw [Eg (by rw [E.pk hl]; exact hp)];rfl
theorem Ge (i : Nat) : Cv p L (gp L i) (gp L' (p + i)) := by
 intro v j h;unfold gp at h ⊢;cases h1 : aH L (i + 1) 123 with
 | error e => rw [h1] at h; cases h
 | ok a =>
  obtain ⟨ha, e1⟩ := ie E h1 (by decide);rw [h1] at h;rw [show p + i + 1 = p + (i + 1) from rfl, e1];simp only at h ⊢;rw [E.IB rfl rfl rfl ha, show p + aq ct L a - (p + a) = aq ct L a - a by omega];by_cases hn : aq ct L a - a < 1 ∨ 6 < aq ct L a - a
  ·rw [if_pos hn] at h; cases h
  rw [if_neg hn] at h ⊢;cases h2 : aH L (aq ct L a) 125 with
  | error e => rw [h2] at h; cases h
  | ok b =>
   obtain ⟨hb, e2⟩ := ie E h2 (by decide);rw [h2] at h;rw [e2];simp only at h ⊢;rw [E.text (dA ha).2];by_cases hm : 1114111 < dg (ay L a (aq ct L a))
   ·rw [if_pos hm] at h; cases h
   rw [if_neg hm] at h ⊢;injection h with h;injection h with h3 h4;subst h3 h4;exact ⟨hb, rfl⟩
theorem rT (i : Nat) : Cv p L (bU L i) (bU L' (p + i)) := by
 intro v j h;unfold bU at h ⊢;by_cases hp : bL (Go.Proofs.YthnhbcohfoodlaaGreatDoor.pk L i) = true
 ·have hl : i < L.length := aS (fun e => by rw [e] at hp; exact absurd hp (by decide));rw [if_pos hp] at h;rw [E.pk hl, if_pos hp];injection h with h;injection h with h3 h4;subst h3 h4;exact ⟨hl, rfl⟩
 rw [if_neg hp] at h;by_cases kY : Go.Proofs.YthnhbcohfoodlaaGreatDoor.pk L i ≠ 92
 ·rw [if_pos kY] at h; cases h
 rw [if_neg kY] at h;have hl : i < L.length := aS (by omega);rw [E.pk hl, if_neg hp, if_neg kY];have oJ : i + 1 < L.length := aS (fun e => by rw [e] at h; simp at h);rw [show p + i + 1 = p + (i + 1) from rfl, E.pk oJ];by_cases c1 : Go.Proofs.YthnhbcohfoodlaaGreatDoor.pk L (i + 1) = 110
 ·rw [if_pos c1] at h ⊢;injection h with h; injection h with h3 h4; subst h3 h4;exact ⟨oJ, rfl⟩
 rw [if_neg c1] at h ⊢;by_cases c2 : Go.Proofs.YthnhbcohfoodlaaGreatDoor.pk L (i + 1) = 116
 ·rw [if_pos c2] at h ⊢;injection h with h; injection h with h3 h4; subst h3 h4;exact ⟨oJ, rfl⟩
 rw [if_neg c2] at h ⊢;by_cases c3 : Go.Proofs.YthnhbcohfoodlaaGreatDoor.pk L (i + 1) = 117
 ·rw [if_pos c3] at h ⊢;exact Ge E _ _ _ h
 rw [if_neg c3] at h ⊢;by_cases c4 : Go.Proofs.YthnhbcohfoodlaaGreatDoor.pk L (i + 1) < 0 ∨ rJ (Go.Proofs.YthnhbcohfoodlaaGreatDoor.pk L (i + 1)) = true
 ·rw [if_pos c4] at h; cases h
 rw [if_neg c4] at h ⊢;injection h with h; injection h with h3 h4; subst h3 h4;exact ⟨oJ, rfl⟩
theorem ET (i : Nat) : Cv p L (iw L i) (iw L' (p + i)) := by
 intro v j h;unfold iw at h ⊢;cases h1 : bU L i with
 | error e => rw [h1] at h; cases h
 | ok q =>
  obtain ⟨low, a⟩ := q;obtain ⟨ha, e1⟩ := rT E _ _ _ h1;rw [h1] at h;rw [e1];simp only at h ⊢;have c1 : (Go.Proofs.YthnhbcohfoodlaaGreatDoor.pk L' (p + a) = 45 ∧ Go.Proofs.YthnhbcohfoodlaaGreatDoor.pk L' (p + a + 1) ≠ 91) ↔ (Go.Proofs.YthnhbcohfoodlaaGreatDoor.pk L a = 45 ∧ Go.Proofs.YthnhbcohfoodlaaGreatDoor.pk L (a + 1) ≠ 91) := by
   rw [E.is ha (by decide) (by decide) (by decide)];refine and_congr_right (fun IA => ?_);have hl : a < L.length := aS (by omega);exact not_congr (E.is (k := a + 1) hl (by decide) (by decide) (by decide))
  by_cases hc : Go.Proofs.YthnhbcohfoodlaaGreatDoor.pk L a = 45 ∧ Go.Proofs.YthnhbcohfoodlaaGreatDoor.pk L (a + 1) ≠ 91
  ·rw [if_pos hc] at h;rw [if_pos (c1.2 hc)];cases h2 : bU L (a + 1) with
   | error e => rw [h2] at h; cases h
   | ok q =>
    obtain ⟨high, b⟩ := q;obtain ⟨hb, e2⟩ := rT E _ _ _ h2;rw [h2] at h;rw [show p + a + 1 = p + (a + 1) from rfl, e2];simp only at h ⊢;by_cases hh : high < low
    ·rw [if_pos hh] at h; cases h
    rw [if_neg hh] at h ⊢;injection h with h; injection h with h3 h4; subst h3 h4;exact ⟨hb, rfl⟩
  rw [if_neg hc] at h;rw [if_neg (fun x => hc (c1.1 x))];injection h with h; injection h with h3 h4; subst h3 h4;exact ⟨ha, rfl⟩
theorem CH {i : Nat} (hi : i + 2 ≤ L.length) : Cv p L (dN L i) (dN L' (p + i)) := by
 intro v j h;unfold dN at h ⊢;rw [show p + i + 2 = p + (i + 2) from rfl, E.IB rfl rfl rfl hi, E.text (dA hi).2];cases h0 : eO (ay L (i + 2) (aq bL L (i + 2))) with
 | none => rw [h0] at h; cases h
 | some s =>
  rw [h0] at h;simp only at h ⊢;cases h1 : aH L (aq bL L (i + 2)) 58 with
  | error e => rw [h1] at h; cases h
  | ok a =>
   obtain ⟨ha, e1⟩ := ie E h1 (by decide);rw [h1] at h;rw [e1];simp only at h ⊢;cases h2 : aH L a 93 with
   | error e => rw [h2] at h; cases h
   | ok b =>
    obtain ⟨hb, e2⟩ := ie E h2 (by decide);rw [h2] at h;rw [e2];simp only at h ⊢;injection h with h; injection h with h3 h4; subst h3 h4;exact ⟨hb, rfl⟩
def J3 (p : Nat) (L : List Int) (inner inner' : Nat → fH ag) : Prop := ∀ i s j, inner i = .ok (s, j) → i < j ∧ j ≤ L.length ∧ inner' (p + i) = .ok (s, p + j)
theorem El {inner inner' : Nat → fH ag} (hI : J3 p L inner inner') (i : Nat) (s : ag) (j : Nat) (h : bZ inner L i = .ok (s, j)) : i < L.length ∧ j ≤ L.length ∧ bZ inner' L' (p + i) = .ok (s, p + j) := by
 have hl : i < L.length := by
  refine aS (fun e => ?_);unfold bZ at h;rw [if_neg (fun x => by have := x.1; omega), if_neg (by omega), if_neg (by omega)] at h;unfold iw bU at h;rw [e] at h;simp [bL] at h
 refine ⟨hl, ?_⟩;unfold bZ at h ⊢;rw [E.pk hl, show p + i + 1 = p + (i + 1) from rfl];have c1 := E.is (k := i + 1) hl (r := 58) (by decide) (by decide) (by decide);by_cases hc : Go.Proofs.YthnhbcohfoodlaaGreatDoor.pk L i = 91 ∧ Go.Proofs.YthnhbcohfoodlaaGreatDoor.pk L (i + 1) = 58
 ·rw [if_pos hc] at h;rw [if_pos ⟨hc.1, c1.2 hc.2⟩];have oJ : i + 1 < L.length := aS (by omega);exact CH E oJ _ _ h
 rw [if_neg hc] at h;rw [if_neg (fun x => hc ⟨x.1, c1.1 x.2⟩)];by_cases eU : Go.Proofs.YthnhbcohfoodlaaGreatDoor.pk L i = 91
 ·rw [if_pos eU] at h ⊢;exact (hI _ _ _ h).2
 rw [if_neg eU] at h ⊢;by_cases GS : Go.Proofs.YthnhbcohfoodlaaGreatDoor.pk L i = 38 ∨ Go.Proofs.YthnhbcohfoodlaaGreatDoor.pk L i = 45
 ·rw [if_pos GS] at h ⊢;obtain ⟨g1, g2, g3⟩ := hI _ _ _ h;rw [E.skip (i := i + 1) hl (by omega)];exact ⟨g2, g3⟩
 rw [if_neg GS] at h ⊢;cases h1 : iw L i with
 | error e => rw [h1] at h; cases h
 | ok q =>
  obtain ⟨x, a⟩ := q;obtain ⟨ha, e1⟩ := ET E _ _ _ h1;rw [h1] at h;rw [e1];simp only at h ⊢;injection h with h; injection h with h3 h4; subst h3 h4;exact ⟨ha, rfl⟩
theorem Cm {inner inner' : Nat → fH ag} (hI : J3 p L inner inner') : ∀ (f f' i : Nat) (cur s : ag) (j : Nat), f ≤ f' → i ≤ L.length → cH inner L f i cur = .ok (s, j) → j ≤ L.length ∧ cH inner' L' f' (p + i) cur = .ok (s, p + j) := by
 intro f;induction f with
 | zero => intro f' i cur s j _ _ h; unfold cH at h; cases h
 | succ f ih =>
  intro f' i cur s j hf hi h;obtain ⟨f', rfl⟩ : ∃ g, f' = g + 1 := ⟨f' - 1, by omega⟩;rw [cH] at h ⊢;by_cases vm : Go.Proofs.YthnhbcohfoodlaaGreatDoor.pk L (aG L i) = 93
  ·have hl : aG L i < L.length := aS (by omega);rw [if_pos vm] at h;rw [E.skip hi hl, E.pk hl, if_pos vm];injection h with h; injection h with h3 h4; subst h3 h4;exact ⟨hl, rfl⟩
  rw [if_neg vm] at h;cases h1 : bZ inner L (aG L i) with
  | error e => rw [h1] at h; cases h
  | ok q =>
   obtain ⟨t, a⟩ := q;obtain ⟨hl, ha, e1⟩ := El E hI _ _ _ h1;rw [h1] at h;rw [E.skip hi hl, E.pk hl, if_neg vm, e1];simp only at h ⊢;by_cases hw : (gS (kT (Go.Proofs.YthnhbcohfoodlaaGreatDoor.pk L (aG L i))) cur t).2 ≠ 0
   ·rw [if_pos hw] at h; cases h
   rw [if_neg hw] at h ⊢;exact ih f' a _ _ _ (by omega) ha h
theorem wH (hL : bY L) : ∀ n, J3 p L (aR L n) (aR L' n) := by
 intro n;induction n with
 | zero => intro i s j h; unfold aR at h; cases h
 | succ n ih =>
  intro i s j h;refine ⟨(iQ hL (n + 1) i s j h).1, ?_⟩;rw [aR] at h ⊢;cases h1 : aH L i 91 with
  | error e => rw [h1] at h; cases h
  | ok a =>
   obtain ⟨ha, e1⟩ := ie E h1 (by decide);rw [h1] at h;rw [e1];simp only at h ⊢;have c1 := E.is ha (r := 94) (by decide) (by decide) (by decide);have hst : (if Go.Proofs.YthnhbcohfoodlaaGreatDoor.pk L' (p + a) = 94 then p + a + 1 else p + a) = p + (if Go.Proofs.YthnhbcohfoodlaaGreatDoor.pk L a = 94 then a + 1 else a) := by
    by_cases gR : Go.Proofs.YthnhbcohfoodlaaGreatDoor.pk L a = 94
    ·rw [if_pos gR, if_pos (c1.2 gR)]; rfl
    rw [if_neg gR, if_neg (fun x => gR (c1.1 x))]
   rw [hst];have Gr : (if Go.Proofs.YthnhbcohfoodlaaGreatDoor.pk L a = 94 then a + 1 else a) ≤ L.length := by
    split
    ·rename_i gR; exact aS (by omega)
    exact ha
   cases h2 : cH (aR L n) L (L.length + 1) (if Go.Proofs.YthnhbcohfoodlaaGreatDoor.pk L a = 94 then a + 1 else a) [] with
   | error e => rw [h2] at h; cases h
   | ok q =>
    obtain ⟨cur, k⟩ := q;obtain ⟨hk, e2⟩ := Cm E ih _ (L'.length + 1) _ _ _ _ (by have := E.len; omega) Gr h2;rw [h2] at h;rw [e2];simp only at h ⊢;by_cases gR : Go.Proofs.YthnhbcohfoodlaaGreatDoor.pk L a = 94
    ·rw [if_pos gR] at h;rw [if_pos (c1.2 gR)];by_cases hw : (gS 94 cur []).2 ≠ 0
     ·rw [if_pos hw] at h; cases h
     rw [if_neg hw] at h ⊢;injection h with h; injection h with h3 h4; subst h3 h4;exact ⟨hk, rfl⟩
    rw [if_neg gR] at h;rw [if_neg (fun x => gR (c1.1 x))];injection h with h; injection h with h3 h4; subst h3 h4;exact ⟨hk, rfl⟩
end
end Go.Proofs.YthnhbcohfoodlaaGreatDoor
