/- PartWalk + PartAll + FileSyn + RulesP + RulesMono + RulesEmb -/
import Derived.Test.YthnhbcohfoodlaaGreatDoorZw10
import Derived.Deep.RegionWith
import Derived.Test.YthnhbcohfoodlaaGreatDoorZw11
import Derived.Test.YthnhbcohfoodlaaGreatDoorZw7
set_option maxHeartbeats 1600000
set_option maxRecDepth 100000
namespace Go.Proofs.YthnhbcohfoodlaaGreatDoor
open Go.RowKit
theorem zo {w : World} {g : Nat} {t : TypeId} {cs : Array Value} (h : au w g t cs) : au w.drew g t cs := h
theorem Ir (name : ByteArray) (set : af) (left right : bk) (dir : Int) (A : Option Addr) (n c : Nat) (L1 L2 L3 R1 R2 R3 : Option Addr) (a1 a2 a3 x1 x2 x3 b1 b2 b3 y1 y2 y3 : Nat) (w : World) (hs : kW w w.heap.size A n set) (hn : n ≤ 9223372036854775807) :
    Calls Tryz.prog 70 #[.agg #[.int .i64 1, .string name, .slice A n c, .int .i64 dir, .bool left.start, .bool left.fin, .slice L1 a1 x1, .slice L2 a2 x2, .slice L3 a3 x3, .int .i64 left.aa, .bool right.start, .bool right.fin, .slice R1 b1 y1, .slice R2 b2 y2, .slice R3 b3 y3, .int .i64 right.aa]] w fun e w' => e = .returned (.int .i64 (if cV name = true then cm set else 7)) ∧ Below w.heap.size w w' := by
 have HB := Lib.hid ((Below.refl w.heap.size w).alloc (Nat.le_refl _) (.cells #[.int .i64 1, .string name, .slice A n c, .int .i64 dir, .bool left.start, .bool left.fin, .slice L1 a1 x1, .slice L2 a2 x2, .slice L3 a3 x3, .int .i64 left.aa, .bool right.start, .bool right.fin, .slice R1 b1 y1, .slice R2 b2 y2, .slice R3 b3 y3, .int .i64 right.aa] 98));have HS := Lib.hid (rz hs (.cells #[.int .i64 1, .string name, .slice A n c, .int .i64 dir, .bool left.start, .bool left.fin, .slice L1 a1 x1, .slice L2 a2 x2, .slice L3 a3 x3, .int .i64 left.aa, .bool right.start, .bool right.fin, .slice R1 b1 y1, .slice R2 b2 y2, .slice R3 b3 y3, .int .i64 right.aa] 98));clear hs;cases hr : cV name
 ·go_enter Tryz.func70, Tryz.ntmps70;go_wp2_with (go_at_call 24; refine (iV _ _).mono ?_; rintro e w' ⟨rfl, rfl⟩; rw [hr]);go_ret;exact ⟨rfl, HB.out⟩
 go_enter Tryz.func70, Tryz.ntmps70;go_wp2_with (go_at_call 24; refine (iV _ _).mono ?_; rintro e w' ⟨rfl, rfl⟩; rw [hr]);refine (iN A n c set _ hn HS.out).mono ?_;rintro e w' ⟨rfl, hb⟩;go_wp2_with fail;go_ret;exact ⟨rfl, HB.out.trans (hb.mono (by simp))⟩
theorem Ai (name : ByteArray) (set : af) (left right : bk) (dir : Int) (A : Option Addr) (n c : Nat) (L1 L2 L3 R1 R2 R3 : Option Addr) (a1 a2 a3 x1 x2 x3 b1 b2 b3 y1 y2 y3 : Nat) (w : World) (hs : kW w w.heap.size A n set) (hn : n ≤ 9223372036854775807) :
    Calls Tryz.prog 70 #[.agg #[.int .i64 3, .string name, .slice A n c, .int .i64 dir, .bool left.start, .bool left.fin, .slice L1 a1 x1, .slice L2 a2 x2, .slice L3 a3 x3, .int .i64 left.aa, .bool right.start, .bool right.fin, .slice R1 b1 y1, .slice R2 b2 y2, .slice R3 b3 y3, .int .i64 right.aa]] w fun e w' => e = .returned (.int .i64 (cm set)) ∧ Below w.heap.size w w' := by
 have HB := Lib.hid ((Below.refl w.heap.size w).alloc (Nat.le_refl _) (.cells #[.int .i64 3, .string name, .slice A n c, .int .i64 dir, .bool left.start, .bool left.fin, .slice L1 a1 x1, .slice L2 a2 x2, .slice L3 a3 x3, .int .i64 left.aa, .bool right.start, .bool right.fin, .slice R1 b1 y1, .slice R2 b2 y2, .slice R3 b3 y3, .int .i64 right.aa] 98));have HS := Lib.hid (rz hs (.cells #[.int .i64 3, .string name, .slice A n c, .int .i64 dir, .bool left.start, .bool left.fin, .slice L1 a1 x1, .slice L2 a2 x2, .slice L3 a3 x3, .int .i64 left.aa, .bool right.start, .bool right.fin, .slice R1 b1 y1, .slice R2 b2 y2, .slice R3 b3 y3, .int .i64 right.aa] 98));clear hs;go_enter Tryz.func70, Tryz.ntmps70;go_wp2_with fail;refine (iN A n c set _ hn HS.out).mono ?_;rintro e w' ⟨rfl, hb⟩;go_wp2_with fail;go_ret;exact ⟨rfl, HB.out.trans (hb.mono (by simp))⟩
theorem DA (name : ByteArray) (left right : bk) (kind dir : Int) (A : Option Addr) (n c : Nat) (L1 L2 L3 R1 R2 R3 : Option Addr) (a1 a2 a3 x1 x2 x3 b1 b2 b3 y1 y2 y3 : Nat) (w : World) (k1 : kind ≠ 1) (k2 : kind ≠ 2) (k3 : kind ≠ 3) (k4 : kind ≠ 4) :
    Calls Tryz.prog 70 #[.agg #[.int .i64 kind, .string name, .slice A n c, .int .i64 dir, .bool left.start, .bool left.fin, .slice L1 a1 x1, .slice L2 a2 x2, .slice L3 a3 x3, .int .i64 left.aa, .bool right.start, .bool right.fin, .slice R1 b1 y1, .slice R2 b2 y2, .slice R3 b3 y3, .int .i64 right.aa]] w fun e w' => e = .returned (.int .i64 (1)) ∧ Below w.heap.size w w' := by
 have HB := Lib.hid ((Below.refl w.heap.size w).alloc (Nat.le_refl _) (.cells #[.int .i64 kind, .string name, .slice A n c, .int .i64 dir, .bool left.start, .bool left.fin, .slice L1 a1 x1, .slice L2 a2 x2, .slice L3 a3 x3, .int .i64 left.aa, .bool right.start, .bool right.fin, .slice R1 b1 y1, .slice R2 b2 y2, .slice R3 b3 y3, .int .i64 right.aa] 98));have e1 : (kind == 1) = false := (by simpa using k1);have e2 : (kind == 2) = false := (by simpa using k2);have e3 : (kind == 3) = false := (by simpa using k3);have e4 : (kind == 4) = false := (by simpa using k4);clear k1 k2 k3 k4;go_enter Tryz.func70, Tryz.ntmps70;go_wp2_with fail;go_ret;exact ⟨rfl, HB.out⟩
theorem FA (name : ByteArray) (left right : bk) (dir : Int) (A : Option Addr) (n c : Nat) (L1 L2 L3 R1 R2 R3 : Option Addr) (a1 a2 a3 x1 x2 x3 b1 b2 b3 y1 y2 y3 : Nat) (w : World)  :
    Calls Tryz.prog 70 #[.agg #[.int .i64 4, .string name, .slice A n c, .int .i64 dir, .bool left.start, .bool left.fin, .slice L1 a1 x1, .slice L2 a2 x2, .slice L3 a3 x3, .int .i64 left.aa, .bool right.start, .bool right.fin, .slice R1 b1 y1, .slice R2 b2 y2, .slice R3 b3 y3, .int .i64 right.aa]] w fun e w' => e = .returned (.int .i64 (if ku name = true then 0 else 7)) ∧ Below w.heap.size w w' := by
 have HB := Lib.hid ((Below.refl w.heap.size w).alloc (Nat.le_refl _) (.cells #[.int .i64 4, .string name, .slice A n c, .int .i64 dir, .bool left.start, .bool left.fin, .slice L1 a1 x1, .slice L2 a2 x2, .slice L3 a3 x3, .int .i64 left.aa, .bool right.start, .bool right.fin, .slice R1 b1 y1, .slice R2 b2 y2, .slice R3 b3 y3, .int .i64 right.aa] 98));have c1 : (w.alloc (.cells #[.int .i64 4, .string name, .slice A n c, .int .i64 dir, .bool left.start, .bool left.fin, .slice L1 a1 x1, .slice L2 a2 x2, .slice L3 a3 x3, .int .i64 left.aa, .bool right.start, .bool right.fin, .slice R1 b1 y1, .slice R2 b2 y2, .slice R3 b3 y3, .int .i64 right.aa] 98)).cell? ⟨w.heap.size, 1, none⟩ = some (.string name) := (au.new _ _ _).cell 1;have hlt : w.heap.size < (w.alloc (.cells #[.int .i64 4, .string name, .slice A n c, .int .i64 dir, .bool left.start, .bool left.fin, .slice L1 a1 x1, .slice L2 a2 x2, .slice L3 a3 x3, .int .i64 left.aa, .bool right.start, .bool right.fin, .slice R1 b1 y1, .slice R2 b2 y2, .slice R3 b3 y3, .int .i64 right.aa] 98)).heap.size := (by simp);cases hr : ku name
 all_goals
   have HR := Lib.hid hr
   clear hr
   go_enter Tryz.func70, Tryz.ntmps70
   go_wp2_with fail
   generalize w.alloc (.cells #[.int .i64 4, .string name, .slice A n c, .int .i64 dir, .bool left.start, .bool left.fin, .slice L1 a1 x1, .slice L2 a2 x2, .slice L3 a3 x3, .int .i64 left.aa, .bool right.start, .bool right.fin, .slice R1 b1 y1, .slice R2 b2 y2, .slice R3 b3 y3, .int .i64 right.aa] 98) = W0 at *
   go_region_with (first | (go_at_call 97; refine (mO _).mono ?_; rintro e w' ⟨rfl, rfl⟩) | (go_at_call 96; refine (Ay _ name _ HR.out _ (zo (au.new _ _ _))).mono ?_; rintro e w' ⟨rfl, rfl⟩))
   all_goals
     go_wp2_with fail
     go_ret
     exact ⟨rfl, below_drewN (HB.out.alloc HB.out.size _) _⟩
theorem qz (p : ay) (A : Option Addr) (n c : Nat) (L1 L2 L3 R1 R2 R3 : Option Addr) (a1 a2 a3 x1 x2 x3 b1 b2 b3 y1 y2 y3 : Nat) (w : World) (hs : kW w w.heap.size A n p.set) (hn : n ≤ maxLen) (l1 : bF w w.heap.size L1 a1 p.left.before) (l2 : bF w w.heap.size L2 a2 p.left.source) (l3 : bF w w.heap.size L3 a3 p.left.after) (ue : a1 ≤ maxLen) (rV : a2 ≤ maxLen) (uF : a3 ≤ maxLen) (r1 : bF w w.heap.size R1 b1 p.right.before) (r2 : bF w w.heap.size R2 b2 p.right.source) (r3 : bF w w.heap.size R3 b3 p.right.after) (vw : b1 ≤ maxLen) (sO : b2 ≤ maxLen) (uC : b3 ≤ maxLen)  :
    Calls Tryz.prog 70 #[.agg #[.int .i64 p.kind, .string p.name, .slice A n c, .int .i64 p.dir, .bool p.left.start, .bool p.left.fin, .slice L1 a1 x1, .slice L2 a2 x2, .slice L3 a3 x3, .int .i64 p.left.aa, .bool p.right.start, .bool p.right.fin, .slice R1 b1 y1, .slice R2 b2 y2, .slice R3 b3 y3, .int .i64 p.right.aa]] w fun e w' => e = .returned (.int .i64 (dm p)) ∧ Below w.heap.size w w' := by
 obtain ⟨kind, name, set, dir, left, right⟩ := p;dsimp only at *;unfold dm;dsimp only;by_cases k1 : kind = 1
 ·subst k1;rw [if_pos rfl];exact Ir name set left right dir A n c L1 L2 L3 R1 R2 R3 a1 a2 a3 x1 x2 x3 b1 b2 b3 y1 y2 y3 w hs (by unfold maxLen at hn; omega)
 by_cases k3 : kind = 3
 ·subst k3;rw [if_neg k1, if_pos rfl];exact Ai name set left right dir A n c L1 L2 L3 R1 R2 R3 a1 a2 a3 x1 x2 x3 b1 b2 b3 y1 y2 y3 w hs (by unfold maxLen at hn; omega)
 by_cases k4 : kind = 4
 ·subst k4;rw [if_neg k1, if_neg k3, if_pos rfl];exact FA name left right dir A n c L1 L2 L3 R1 R2 R3 a1 a2 a3 x1 x2 x3 b1 b2 b3 y1 y2 y3 w
 by_cases k2 : kind = 2
 ·subst k2;rw [if_neg k1, if_neg k3, if_neg k4, if_pos rfl];by_cases hd : dir < 1 ∨ 3 < dir
  ·have e : ck dir left right = 1 := if_pos hd;rw [e];exact Ih name left right dir A n c L1 L2 L3 R1 R2 R3 a1 a2 a3 x1 x2 x3 b1 b2 b3 y1 y2 y3 w hd
  rcases (show dir = 1 ∨ dir = 2 ∨ dir = 3 by omega) with rfl | rfl | rfl;exact DL name left right A n c L1 L2 L3 R1 R2 R3 a1 a2 a3 x1 x2 x3 b1 b2 b3 y1 y2 y3 w l1 l2 l3 ue rV uF r1 r2 r3 vw sO uC;exact Ct name left right A n c L1 L2 L3 R1 R2 R3 a1 a2 a3 x1 x2 x3 b1 b2 b3 y1 y2 y3 w l1 l2 l3 ue rV uF r1 r2 r3 vw sO uC;exact DI name left right A n c L1 L2 L3 R1 R2 R3 a1 a2 a3 x1 x2 x3 b1 b2 b3 y1 y2 y3 w l1 l2 l3 ue rV uF r1 r2 r3 vw sO uC
 rw [if_neg k1, if_neg k3, if_neg k4, if_neg k2];exact DA name left right kind dir A n c L1 L2 L3 R1 R2 R3 a1 a2 a3 x1 x2 x3 b1 b2 b3 y1 y2 y3 w k1 k2 k3 k4
theorem kY (A : Option Addr) (n c : Nat) (l : List ay) (w : World) (hn : n ≤ maxLen) (hl : rX w w.heap.size A n l) :
    Calls Tryz.prog 30 #[.slice A n c] w fun e w' => e = .returned (.agg #[.int .i64 (bN l).1, .int .i64 (bN l).2]) ∧ Below w.heap.size w w' := by
 have bY := Lib.hid (iE.len hl);have HL := Lib.hid hl;have hn2 : n ≤ 9223372036854775807 := (by unfold maxLen at hn; omega);clear hl hn;by_cases h20 : 200 < n
 ·have HP := Lib.hid (show bN l = (5, 0) by unfold bN; rw [if_pos (by rw [bY.out]; exact h20)]);go_enter Tryz.func30, Tryz.ntmps30;go_wp2_with fail;rw [HP.out];exact bodyPost_ret (v := .agg #[.int .i64 5, .int .i64 0]) (by simp [results, Tryz.results30, go_sem]) rfl ⟨rfl, (Below.refl _ _).alloc (Nat.le_refl _) _⟩
 have HP := Lib.hid (show bN l = jr 0 l by unfold bN; rw [if_neg (by rw [bY.out]; exact h20)]);go_enter Tryz.func30, Tryz.ntmps30;go_wp2_with fail;go_loopw [12] (O9 w l n) (fun i _ => n - (intOf i).toNat);(case atStart => exact ⟨0, Nat.zero_le _, rfl, rfl, au.new _ _ _, (Below.refl _ _).alloc (Nat.le_refl _) _⟩);obtain ⟨k, hk, rfl, bU, hres, hb⟩ := hrel;have hz := hb.size;have ED := hres.lt;by_cases hlt : k < n
 ·obtain ⟨p, hp⟩ : ∃ z, l[k]? = some z := ⟨_, List.getElem?_eq_getElem (by rw [bY.out]; exact hlt)⟩;rw [jB hp, jr] at bU;obtain ⟨b, off, A', n', c', L1, L2, L3, R1, R2, R3, a1, a2, a3, x1, x2, x3, b1, b2, b3, y1, y2, y3, rfl, eD, ⟨f0, f1, f2, f3, f4, f5, f6, f7, f8, f9, f10, f11, f12, f13, f14, f15⟩, hs, hn', l1, l2, l3, ue, rV, uF, r1, r2, r3, vw, sO, uC, cl, cr, hm⟩ := yI HL.out hp;have d0 := (hb.cell (p := ⟨b, off + k * 16, none⟩) eD).trans f0;have d1 := (hb.cell (p := ⟨b, off + k * 16 + 1, none⟩) eD).trans f1;have d2 := (hb.cell (p := ⟨b, off + k * 16 + 2, none⟩) eD).trans f2;have d3 := (hb.cell (p := ⟨b, off + k * 16 + 3, none⟩) eD).trans f3;have d4 := (hb.cell (p := ⟨b, off + k * 16 + 4, none⟩) eD).trans f4;have d5 := (hb.cell (p := ⟨b, off + k * 16 + 5, none⟩) eD).trans f5;have d6 := (hb.cell (p := ⟨b, off + k * 16 + 6, none⟩) eD).trans f6;have d7 := (hb.cell (p := ⟨b, off + k * 16 + 7, none⟩) eD).trans f7;have d8 := (hb.cell (p := ⟨b, off + k * 16 + 8, none⟩) eD).trans f8;have d9 := (hb.cell (p := ⟨b, off + k * 16 + 9, none⟩) eD).trans f9;have d10 := (hb.cell (p := ⟨b, off + k * 16 + 10, none⟩) eD).trans f10;have d11 := (hb.cell (p := ⟨b, off + k * 16 + 11, none⟩) eD).trans f11;have d12 := (hb.cell (p := ⟨b, off + k * 16 + 12, none⟩) eD).trans f12;have d13 := (hb.cell (p := ⟨b, off + k * 16 + 13, none⟩) eD).trans f13;have d14 := (hb.cell (p := ⟨b, off + k * 16 + 14, none⟩) eD).trans f14;have d15 := (hb.cell (p := ⟨b, off + k * 16 + 15, none⟩) eD).trans f15;have HI := Lib.hid (fun w' (hw : Below w.heap.size w w') => qz p A' n' c' L1 L2 L3 R1 R2 R3 a1 a2 a3 x1 x2 x3 b1 b2 b3 y1 y2 y3 w' (Rd.more (Rd.below hs hw) hw.size) hn' (aH l1 hw) (aH l2 hw) (aH l3 hw) ue rV uF (aH r1 hw) (aH r2 hw) (aH r3 hw) vw sO uC);clear f0 f1 f2 f3 f4 f5 f6 f7 f8 f9 f10 f11 f12 f13 f14 f15 hs hn' l1 l2 l3 ue rV uF r1 r2 r3 vw sO uC cl cr hm
  have cy := Lib.hid (hb.alloc hz (.cells #[.int .i64 p.kind, .string p.name, .slice A' n' c', .int .i64 p.dir, .bool p.left.start, .bool p.left.fin, .slice L1 a1 x1, .slice L2 a2 x2, .slice L3 a3 x3, .int .i64 p.left.aa, .bool p.right.start, .bool p.right.fin, .slice R1 b1 y1, .slice R2 b2 y2, .slice R3 b3 y3, .int .i64 p.right.aa] 98));have tI := Lib.hid (hres.alloc (.cells #[.int .i64 p.kind, .string p.name, .slice A' n' c', .int .i64 p.dir, .bool p.left.start, .bool p.left.fin, .slice L1 a1 x1, .slice L2 a2 x2, .slice L3 a3 x3, .int .i64 p.left.aa, .bool p.right.start, .bool p.right.fin, .slice R1 b1 y1, .slice R2 b2 y2, .slice R3 b3 y3, .int .i64 p.right.aa] 98));by_cases hi : dm p = 0
  ·rw [if_pos hi] at bU;have HG := Lib.hid bU;clear bU hres;go_wp2_with fail;refine (HI.out _ cy.out).mono ?_;rintro e w2 ⟨rfl, bn⟩;rw [hi];have hk2 := au.below tI.out bn tI.out.lt;have aJ := cy.out.trans (bn.mono cy.out.size);have Kg := Lib.hid hk2;have dQ := Lib.hid aJ;clear bn aJ hk2;go_wp2_with fail;exact ⟨⟨k + 1, by omega, by go_num, HG.out, Kg.out, dQ.out⟩, by simp [intOf]; omega⟩
  rw [if_neg hi] at bU;have hi2 : (dm p != 0) = true := (by simpa using hi);have HG := Lib.hid bU;clear bU hres hi;go_wp2_with fail;refine (HI.out _ cy.out).mono ?_;rintro e w2 ⟨rfl, bn⟩;have hk2 := au.below tI.out bn tI.out.lt;have aJ := cy.out.trans (bn.mono cy.out.size);have q0 : w2.cell? ⟨w.heap.size, 0, none⟩ = some (.int .i64 0) := hk2.cell 0;have q1 : w2.cell? ⟨w.heap.size, 1, none⟩ = some (.int .i64 0) := hk2.cell 1;have q2 := hk2.frozen 0;have q3 := hk2.frozen 1;have dQ := Lib.hid aJ;clear bn aJ hk2;go_wp2_with fail;rw [HP.out, HG.out];exact bodyPost_ret (v := .agg #[.int .i64 (dm p), .int .i64 k]) (by simp [results, Tryz.results30, go_sem, q0, q1]) rfl ⟨rfl, (dQ.out.setCell (by simp) _).setCell (by simp) _⟩
 obtain rfl : k = n := (by omega);rw [List.drop_of_length_le (by rw [bY.out]; omega)] at bU;have HG := Lib.hid (bU.trans (show jr k [] = (0, 0) from rfl));have q0 : wr.cell? ⟨w.heap.size, 0, none⟩ = some (.int .i64 0) := hres.cell 0;have q1 : wr.cell? ⟨w.heap.size, 1, none⟩ = some (.int .i64 0) := hres.cell 1;have q2 := hres.frozen 0;have q3 := hres.frozen 1;clear bU hres;go_wp2_with fail;rw [HP.out, HG.out];exact bodyPost_ret (v := .agg #[.int .i64 0, .int .i64 0]) (by simp [results, Tryz.results30, go_sem, q0, q1]) rfl ⟨rfl, (hb.setCell (by simp) _).setCell (by simp) _⟩
def oS (r : Int) : Bool := decide (0 ≤ r) && !decide (r = 10)
def eL (L : List Int) : Nat → Nat → Nat
  | 0, i => aN L i
  | f + 1, i => if pk L (aN L i) = 35 then eL L f (aA oS L (aN L i)) else aN L i
def ai (L : List Int) (i : Nat) : Nat := eL L (L.length + 1) i
def gQ (r : Int) : Bool := (decide (97 ≤ r) && decide (r ≤ 122)) || decide (r = 95)
def uR (r : Int) : Bool := decide (48 ≤ r) && decide (r ≤ 57)
def aV (L : List Int) (i : Nat) : Nat := if gQ (pk L i) = true then aA (fun r => gQ r || uR r) L i else i
def fS (L : List Int) (i : Nat) : ByteArray := runesBytes (aO L i (aV L i))
def fh (L : List Int) (i : Nat) : jz ByteArray := if cV (fS L i) = true then .ok (fS L i, aV L i) else .error (7, i)
def kA (r : Int) : Bool := decide (0 ≤ r) && !decide (r = 39)
def cS : ByteArray := ⟨#[]⟩
def j7 (x : Int) : ak := ⟨1, x, [], cS⟩
def fJ (L : List Int) (i : Nat) : jz (List ak) :=
  if pk L (aA kA L (i + 1)) = 39 then .ok ((aO L (i + 1) (aA kA L (i + 1))).map j7, aA kA L (i + 1) + 1) else .error (2, aA kA L (i + 1))
def bH (L : List Int) (a : Nat) (out : List ak) (cur : Int) : Except (Int × Nat) (Option ((List ak × Int) × Nat)) :=
  if pk L a = 124 then (if 0 ≤ cur then .error (5, a) else .ok (some ((out, (out.length : Int)), a + 1)))
  else if pk L a = 91 then match bu L 20 a with | .error e => .error e | .ok (s, j) => .ok (some ((out ++ [⟨2, 0, s, cS⟩], cur), j))
  else if pk L a = 36 ∧ gQ (pk L (a + 1)) = true then match fh L (a + 1) with | .error e => .error e | .ok (s, j) => .ok (some ((out ++ [⟨3, 0, [], s⟩], cur), j))
  else if pk L a = 39 then match fJ L a with | .error e => .error e | .ok (l, j) => .ok (some ((out ++ l, cur), j))
  else if pk L a = 92 ∨ bT (pk L a) = true then match cC L a with | .error e => .error e | .ok (x, j) => if aU x = true then .ok (some ((out ++ [j7 x], cur), j)) else .error (3, a)
  else .ok none
def bJ (L : List Int) : Nat → Nat → List ak → Int → jz (List ak × Int)
  | 0, i, _, _ => .error (2, i)
  | f + 1, i, out, cur => match bH L (ai L i) out cur with
    | .error e => .error e
    | .ok none => .ok ((out, cur), ai L i)
    | .ok (some ((o, c), j)) => if 20 < o.length then .error (5, ai L i) else bJ L f j o c
def bI (L : List Int) (i : Nat) : jz (List ak × Int) := bJ L (L.length + 1) i [] (-1)
def cJ (L : List Int) (start : Bool) (a : Nat) : jz (List ak × List ak × Int) :=
  match bI L a with
  | .error e => .error e
  | .ok ((l, c), j) =>
    if pk L j = 123 then (if 0 ≤ c then .error (8, a) else match bI L (j + 1) with | .error e => .error e | .ok ((l2, c2), j2) => .ok ((l, l2, c2), j2))
    else if start = true then .error (2, j) else .ok (([], l, c), j)
def dh (L : List Int) (j : Nat) : jz (List ak × Bool) :=
  if pk L j = 125 then match bI L (j + 1) with
    | .error e => .error e
    | .ok ((l, c), k) => if 0 ≤ c then .error (8, j + 1) else if pk L k = 36 then .ok ((l, true), k + 1) else .ok ((l, false), k)
  else .ok (([], false), j)
def cH (L : List Int) (i : Nat) : jz bk :=
  match cJ L (decide (pk L (ai L i) = 94)) (if pk L (ai L i) = 94 then ai L i + 1 else ai L i) with
  | .error e => .error e
  | .ok ((b, s, c), j) => match dh L j with
    | .error e => .error e
    | .ok ((a, fin), k) => .ok (⟨decide (pk L (ai L i) = 94), fin, b, s, a, c⟩, ai L k)
def dw (L : List Int) (i : Nat) : jz Int :=
  if pk L i = 62 then .ok (1, i + 1) else if pk L i = 60 ∧ pk L (i + 1) = 62 then .ok (3, i + 2)
  else match aW L i 60 with | .error e => .error e | .ok j => .ok (2, j)
def cB : bk := ⟨false, false, [], [], [], 0⟩
def gA (L : List Int) (i : Nat) : jz ay :=
  match cH L i with
  | .error e => .error e
  | .ok (l, j) => match dw L j with
    | .error e => .error e
    | .ok (d, k) => match cH L k with
      | .error e => .error e
      | .ok (r, m) => if dm ⟨2, cS, [], d, l, r⟩ ≠ 0 then .error (dm ⟨2, cS, [], d, l, r⟩, i) else .ok (⟨2, cS, [], d, l, r⟩, m)
def iz (L : List Int) (i : Nat) : jz ay :=
  match aW L (i + 1) 58 with
  | .error e => .error e
  | .ok j =>
    if pk L (ai L j) = 91 then match bu L 20 (ai L j) with | .error e => .error e | .ok (s, k) => .ok (⟨3, cS, s, 0, cB, cB⟩, k)
    else if ku (fS L (ai L j)) = true then .ok (⟨4, fS L (ai L j), [], 0, cB, cB⟩, aV L (ai L j)) else .error (7, ai L j)
def mT (L : List Int) (i : Nat) : jz ay :=
  match fh L (i + 1) with
  | .error e => .error e
  | .ok (s, j) => match aW L (ai L j) 61 with
    | .error e => .error e
    | .ok k => match bu L 20 (ai L k) with | .error e => .error e | .ok (t, m) => .ok (⟨1, s, t, 0, cB, cB⟩, m)
def gI (L : List Int) (i : Nat) : jz ay :=
  if pk L i = 58 then iz L i
  else if pk L i = 36 ∧ pk L (ai L (aV L (i + 1))) = 61 then mT L i
  else gA L i
def gf (L : List Int) : Nat → Nat → List ay → Except (Int × Nat) (List ay)
  | 0, i, _ => .error (2, i)
  | f + 1, i, l =>
    if pk L (ai L i) < 0 then .ok l
    else if l.length = 200 then .error (5, ai L i)
    else match gI L (ai L i) with
      | .error e => .error e
      | .ok (p, j) => match aW L (ai L j) 59 with
        | .error e => .error e
        | .ok k => gf L f k (l ++ [p])
def iK (L : List Int) : List ay × (Int × Int) :=
  if 16000 < L.length then ([], (4, 0))
  else match gf L (L.length + 1) 0 [] with
    | .error (e, p) => ([], (e, (p : Int)))
    | .ok l => (l, (0, 0))
theorem Gp (L : List Int) : ∀ f i, i ≤ eL L f i := by
 intro f;induction f with
 | zero => exact fun i => ei L i
 | succ f ih =>
  intro i;rw [eL];split;exact Nat.le_trans (ei L i) (Nat.le_trans (eO _ _ _) (ih _));exact ei L i
theorem pH {L : List Int} {i : Nat} (h : i ≤ L.length) : aN L i ≤ L.length := (gP h).2
theorem FG (L : List Int) : ∀ f i, i ≤ L.length → eL L f i ≤ L.length := by
 intro f;induction f with
 | zero => exact fun i h => pH h
 | succ f ih =>
  intro i h;rw [eL];split;exact ih _ (gP (pH h)).2;exact pH h
theorem de (L : List Int) (i : Nat) : i ≤ ai L i := Gp L _ i
theorem nt {L : List Int} {i : Nat} (h : i ≤ L.length) : ai L i ≤ L.length := FG L _ i h
theorem uB (L : List Int) (i : Nat) : i ≤ aV L i := by
 unfold aV;split;exact eO _ _ _;exact Nat.le_refl _
theorem j6 {L : List Int} {i : Nat} (h : i ≤ L.length) : aV L i ≤ L.length := by
 unfold aV;split;exact (gP h).2;exact h
theorem kg {L : List Int} {i j : Nat} {s : ByteArray} (h : fh L i = .ok (s, j)) : i < j ∧ cV s = true ∧ s = fS L i ∧ j = aV L i := by
 unfold fh at h;split at h
 ·rename_i hn;injection h with h;injection h with h1 h2;subst h1 h2;refine ⟨?_, hn, rfl, rfl⟩;rcases Nat.lt_or_ge i (aV L i) with hl | hl;exact hl;have he : aV L i = i := Nat.le_antisymm hl (uB L i);have ht : fS L i = runesBytes [] := by
   unfold fS aO;rw [he, Nat.sub_self];rfl
  rw [ht] at hn;exact absurd hn (by unfold cV; simp [show (runesBytes []).size = 0 from rfl])
 cases h
theorem vI {L : List Int} {i j : Nat} {l : List ak} (h : fJ L i = .ok (l, j)) : i + 1 < j ∧ j ≤ L.length := by
 unfold fJ at h;split at h
 ·rename_i hn;injection h with h;injection h with h1 h2;have hlt := bA (L := L) (i := aA kA L (i + 1)) (by omega);have := eO kA L (i + 1);omega
 cases h
theorem uV {L : List Int} (hL : cA L) {a j : Nat} {out o : List ak} {cur c : Int} (h : bH L a out cur = .ok (some ((o, c), j))) : a < j ∧ out.length ≤ o.length := by
 unfold bH at h;split at h
 ·split at h
  ·cases h
  injection h with h; injection h with h; injection h with h1 h2; injection h1 with h1 h3;subst h1 h2;exact ⟨by omega, Nat.le_refl _⟩
 split at h
 ·split at h
  ·cases h
  rename_i s j' hs;injection h with h; injection h with h; injection h with h1 h2; injection h1 with h1 h3;subst h1 h2;exact ⟨(nD hL 20 _ _ _ hs).1, by simp⟩
 split at h
 ·split at h
  ·cases h
  rename_i s j' hs;injection h with h; injection h with h; injection h with h1 h2; injection h1 with h1 h3;subst h1 h2;have := (kg hs).1;exact ⟨by omega, by simp⟩
 split at h
 ·split at h
  ·cases h
  rename_i s j' hs;injection h with h; injection h with h; injection h with h1 h2; injection h1 with h1 h3;subst h1 h2;have := (vI hs).1;exact ⟨by omega, by simp⟩
 split at h
 ·split at h
  ·cases h
  rename_i x j' hs;split at h
  ·injection h with h; injection h with h; injection h with h1 h2; injection h1 with h1 h3;subst h1 h2;exact ⟨(nj hL hs).1, by simp⟩
  cases h
 injection h with h; cases h
structure Fb (p : Nat) (L L' : List Int) : Prop where
  here : ∀ k, k < L.length → L'[p + k]? = L[k]?
  stop : pk L' (p + L.length) = 10 ∨ pk L' (p + L.length) = 32 ∨ pk L' (p + L.length) = -1
def Gg {α : Type} (p : Nat) (L : List Int) (r r' : jz α) : Prop := ∀ v j, r = .ok (v, j) → j ≤ L.length ∧ r' = .ok (v, p + j)
section
variable {p : Nat} {L L' : List Int} (E : Fb p L L')
include E
theorem Fb.pk {k : Nat} (hk : k < L.length) : pk L' (p + k) = pk L k := by
 unfold Go.Proofs.YthnhbcohfoodlaaGreatDoor.pk;rw [E.here k hk]
theorem Fb.is {k : Nat} (hk : k ≤ L.length) {r : Int} (h1 : r ≠ 10) (h2 : r ≠ -1) (h3 : r ≠ 32) : Go.Proofs.YthnhbcohfoodlaaGreatDoor.pk L' (p + k) = r ↔ Go.Proofs.YthnhbcohfoodlaaGreatDoor.pk L k = r := by
 rcases Nat.lt_or_ge k L.length with hl | hl
 ·rw [E.pk hl]
 have hk : k = L.length := (by omega);subst hk;rw [mM (Nat.le_refl _)];rcases E.stop with e | e | e <;> rw [e] <;> constructor <;> intro h' <;> omega
theorem Fb.lt {k : Nat} (hk : k < L.length) : p + k < L'.length := by
 have := E.here k hk;rw [List.getElem?_eq_getElem hk] at this;exact (List.getElem?_eq_some_iff.1 this).1
theorem Fb.len : L.length ≤ L'.length := by
 rcases Nat.eq_zero_or_pos L.length with h | h;omega;have := E.lt (k := L.length - 1) (by omega);omega
theorem Fb.run {q : Int → Bool} : ∀ (d i : Nat), L.length - i = d → i ≤ L.length → (aA q L i < L.length ∨ q (Go.Proofs.YthnhbcohfoodlaaGreatDoor.pk L' (p + L.length)) = false) → aA q L' (p + i) = p + aA q L i := by
 intro d;induction d with
 | zero =>
  intro i hd hi hq;have e : i = L.length := (by omega);subst e;have e2 : aA q L L.length = L.length := cx (fun h => absurd h (Nat.lt_irrefl _));rw [e2] at hq ⊢;rcases hq with hq | hq;omega;exact cx (fun _ => hq)
 | succ d ih =>
  intro i hd hi hq;have hl : i < L.length := (by omega);cases hv : q (Go.Proofs.YthnhbcohfoodlaaGreatDoor.pk L i) with
  | true =>
   rw [cZ hl hv] at hq ⊢;rw [cZ (E.lt hl) (by rw [E.pk hl]; exact hv), Nat.add_assoc];exact ih (i + 1) (by omega) (by omega) hq
  | false => rw [cx (fun _ => hv), cx (fun _ => by rw [E.pk hl]; exact hv)]
theorem Fb.M6 {q : Int → Bool} (h1 : q 10 = false) (h2 : q 32 = false) (h3 : q (-1) = false) {i : Nat} (hi : i ≤ L.length) : aA q L' (p + i) = p + aA q L i := by
 refine E.run _ i rfl hi (.inr ?_);rcases E.stop with e | e | e <;> rw [e] <;> assumption
theorem Fb.skip {i : Nat} (hi : i ≤ L.length) (h : aN L i < L.length) : aN L' (p + i) = p + aN L i := E.run _ i rfl hi (.inl h)
theorem Fb.text {i j : Nat} (hj : j ≤ L.length) : aO L' (p + i) (p + j) = aO L i j := by
 unfold aO;rw [show p + j - (p + i) = j - i by omega];apply List.ext_getElem?;intro k;rcases Nat.lt_or_ge k (j - i) with hk | hk
 ·rw [List.getElem?_take_of_lt hk, List.getElem?_take_of_lt hk, List.getElem?_drop, List.getElem?_drop, Nat.add_assoc];exact E.here _ (by omega)
 rw [List.getElem?_take_eq_none hk, List.getElem?_take_eq_none hk]
theorem jd {i j : Nat} {r : Int} (h : aW L i r = .ok j) (hr : r ≠ -1) : j ≤ L.length ∧ aW L' (p + i) r = .ok (p + j) := by
 obtain ⟨rfl, hp⟩ := fF h;have hl : i < L.length := bA (by rw [hp]; exact hr);refine ⟨hl, ?_⟩;rw [ir (by rw [E.pk hl]; exact hp)];rfl
theorem K0 (i : Nat) : Gg p L (jn L i) (jn L' (p + i)) := by
 intro v j h;unfold jn at h ⊢;cases h1 : aW L (i + 1) 123 with
 | error e => rw [h1] at h; cases h
 | ok a =>
  obtain ⟨ha, e1⟩ := jd E h1 (by decide);rw [h1] at h;rw [show p + i + 1 = p + (i + 1) from rfl, e1];simp only at h ⊢;rw [E.M6 rfl rfl rfl ha, show p + aA ee L a - (p + a) = aA ee L a - a by omega];by_cases hn : aA ee L a - a < 1 ∨ 6 < aA ee L a - a
  ·rw [if_pos hn] at h; cases h
  rw [if_neg hn] at h ⊢;cases h2 : aW L (aA ee L a) 125 with
  | error e => rw [h2] at h; cases h
  | ok b =>
   obtain ⟨hb, e2⟩ := jd E h2 (by decide);rw [h2] at h;rw [e2];simp only at h ⊢;rw [E.text (gP ha).2];by_cases hm : 1114111 < cF (aO L a (aA ee L a))
   ·rw [if_pos hm] at h; cases h
   rw [if_neg hm] at h ⊢;injection h with h;injection h with h3 h4;subst h3 h4;exact ⟨hb, rfl⟩
theorem uD (i : Nat) : Gg p L (cC L i) (cC L' (p + i)) := by
 intro v j h;unfold cC at h ⊢;by_cases hp : bT (Go.Proofs.YthnhbcohfoodlaaGreatDoor.pk L i) = true
 ·have hl : i < L.length := bA (fun e => by rw [e] at hp; exact absurd hp (by decide));rw [if_pos hp] at h;rw [E.pk hl, if_pos hp];injection h with h;injection h with h3 h4;subst h3 h4;exact ⟨hl, rfl⟩
 rw [if_neg hp] at h;by_cases wj : Go.Proofs.YthnhbcohfoodlaaGreatDoor.pk L i ≠ 92
 ·rw [if_pos wj] at h; cases h
 rw [if_neg wj] at h;have hl : i < L.length := bA (by omega);rw [E.pk hl, if_neg hp, if_neg wj];have mH : i + 1 < L.length := bA (fun e => by rw [e] at h; simp at h);rw [show p + i + 1 = p + (i + 1) from rfl, E.pk mH];by_cases c1 : Go.Proofs.YthnhbcohfoodlaaGreatDoor.pk L (i + 1) = 110
 ·rw [if_pos c1] at h ⊢;injection h with h; injection h with h3 h4; subst h3 h4;exact ⟨mH, rfl⟩
 rw [if_neg c1] at h ⊢;by_cases c2 : Go.Proofs.YthnhbcohfoodlaaGreatDoor.pk L (i + 1) = 116
 ·rw [if_pos c2] at h ⊢;injection h with h; injection h with h3 h4; subst h3 h4;exact ⟨mH, rfl⟩
 rw [if_neg c2] at h ⊢;by_cases c3 : Go.Proofs.YthnhbcohfoodlaaGreatDoor.pk L (i + 1) = 117
 ·rw [if_pos c3] at h ⊢;exact K0 E _ _ _ h
 rw [if_neg c3] at h ⊢;by_cases c4 : Go.Proofs.YthnhbcohfoodlaaGreatDoor.pk L (i + 1) < 0 ∨ C9 (Go.Proofs.YthnhbcohfoodlaaGreatDoor.pk L (i + 1)) = true
 ·rw [if_pos c4] at h; cases h
 rw [if_neg c4] at h ⊢;injection h with h; injection h with h3 h4; subst h3 h4;exact ⟨mH, rfl⟩
theorem JA (i : Nat) : Gg p L (gU L i) (gU L' (p + i)) := by
 intro v j h;unfold gU at h ⊢;cases h1 : cC L i with
 | error e => rw [h1] at h; cases h
 | ok q =>
  obtain ⟨low, a⟩ := q;obtain ⟨ha, e1⟩ := uD E _ _ _ h1;rw [h1] at h;rw [e1];simp only at h ⊢;have c1 : (Go.Proofs.YthnhbcohfoodlaaGreatDoor.pk L' (p + a) = 45 ∧ Go.Proofs.YthnhbcohfoodlaaGreatDoor.pk L' (p + a + 1) ≠ 91) ↔ (Go.Proofs.YthnhbcohfoodlaaGreatDoor.pk L a = 45 ∧ Go.Proofs.YthnhbcohfoodlaaGreatDoor.pk L (a + 1) ≠ 91) := by
   rw [E.is ha (by decide) (by decide) (by decide)];refine and_congr_right (fun Oi => ?_);have hl : a < L.length := bA (by omega);exact not_congr (E.is (k := a + 1) hl (by decide) (by decide) (by decide))
  by_cases hc : Go.Proofs.YthnhbcohfoodlaaGreatDoor.pk L a = 45 ∧ Go.Proofs.YthnhbcohfoodlaaGreatDoor.pk L (a + 1) ≠ 91
  ·rw [if_pos hc] at h;rw [if_pos (c1.2 hc)];cases h2 : cC L (a + 1) with
   | error e => rw [h2] at h; cases h
   | ok q =>
    obtain ⟨high, b⟩ := q;obtain ⟨hb, e2⟩ := uD E _ _ _ h2;rw [h2] at h;rw [show p + a + 1 = p + (a + 1) from rfl, e2];simp only at h ⊢;by_cases hh : high < low
    ·rw [if_pos hh] at h; cases h
    rw [if_neg hh] at h ⊢;injection h with h; injection h with h3 h4; subst h3 h4;exact ⟨hb, rfl⟩
  rw [if_neg hc] at h;rw [if_neg (fun x => hc (c1.1 x))];injection h with h; injection h with h3 h4; subst h3 h4;exact ⟨ha, rfl⟩
theorem FO {i : Nat} (hi : i + 2 ≤ L.length) : Gg p L (eP L i) (eP L' (p + i)) := by
 intro v j h;unfold eP at h ⊢;rw [show p + i + 2 = p + (i + 2) from rfl, E.M6 rfl rfl rfl hi, E.text (gP hi).2];cases h0 : gz (aO L (i + 2) (aA bT L (i + 2))) with
 | none => rw [h0] at h; cases h
 | some s =>
  rw [h0] at h;simp only at h ⊢;cases h1 : aW L (aA bT L (i + 2)) 58 with
  | error e => rw [h1] at h; cases h
  | ok a =>
   obtain ⟨ha, e1⟩ := jd E h1 (by decide);rw [h1] at h;rw [e1];simp only at h ⊢;cases h2 : aW L a 93 with
   | error e => rw [h2] at h; cases h
   | ok b =>
    obtain ⟨hb, e2⟩ := jd E h2 (by decide);rw [h2] at h;rw [e2];simp only at h ⊢;injection h with h; injection h with h3 h4; subst h3 h4;exact ⟨hb, rfl⟩
def NI (p : Nat) (L : List Int) (inner inner' : Nat → jz af) : Prop := ∀ i s j, inner i = .ok (s, j) → i < j ∧ j ≤ L.length ∧ inner' (p + i) = .ok (s, p + j)
theorem Jo {inner inner' : Nat → jz af} (hI : NI p L inner inner') (i : Nat) (s : af) (j : Nat) (h : cU inner L i = .ok (s, j)) : i < L.length ∧ j ≤ L.length ∧ cU inner' L' (p + i) = .ok (s, p + j) := by
 have hl : i < L.length := by
  refine bA (fun e => ?_);unfold cU at h;rw [if_neg (fun x => by have := x.1; omega), if_neg (by omega), if_neg (by omega)] at h;unfold gU cC at h;rw [e] at h;simp [bT] at h
 refine ⟨hl, ?_⟩;unfold cU at h ⊢;rw [E.pk hl, show p + i + 1 = p + (i + 1) from rfl];have c1 := E.is (k := i + 1) hl (r := 58) (by decide) (by decide) (by decide);by_cases hc : Go.Proofs.YthnhbcohfoodlaaGreatDoor.pk L i = 91 ∧ Go.Proofs.YthnhbcohfoodlaaGreatDoor.pk L (i + 1) = 58
 ·rw [if_pos hc] at h;rw [if_pos ⟨hc.1, c1.2 hc.2⟩];have mH : i + 1 < L.length := bA (by omega);exact FO E mH _ _ h
 rw [if_neg hc] at h;rw [if_neg (fun x => hc ⟨x.1, c1.1 x.2⟩)];by_cases ki : Go.Proofs.YthnhbcohfoodlaaGreatDoor.pk L i = 91
 ·rw [if_pos ki] at h ⊢;exact (hI _ _ _ h).2
 rw [if_neg ki] at h ⊢;by_cases L5 : Go.Proofs.YthnhbcohfoodlaaGreatDoor.pk L i = 38 ∨ Go.Proofs.YthnhbcohfoodlaaGreatDoor.pk L i = 45
 ·rw [if_pos L5] at h ⊢;obtain ⟨g1, g2, g3⟩ := hI _ _ _ h;rw [E.skip (i := i + 1) hl (by omega)];exact ⟨g2, g3⟩
 rw [if_neg L5] at h ⊢;cases h1 : gU L i with
 | error e => rw [h1] at h; cases h
 | ok q =>
  obtain ⟨x, a⟩ := q;obtain ⟨ha, e1⟩ := JA E _ _ _ h1;rw [h1] at h;rw [e1];simp only at h ⊢;injection h with h; injection h with h3 h4; subst h3 h4;exact ⟨ha, rfl⟩
theorem E8 {inner inner' : Nat → jz af} (hI : NI p L inner inner') : ∀ (f f' i : Nat) (cur s : af) (j : Nat), f ≤ f' → i ≤ L.length → dF inner L f i cur = .ok (s, j) → j ≤ L.length ∧ dF inner' L' f' (p + i) cur = .ok (s, p + j) := by
 intro f;induction f with
 | zero => intro f' i cur s j _ _ h; unfold dF at h; cases h
 | succ f ih =>
  intro f' i cur s j hf hi h;obtain ⟨f', rfl⟩ : ∃ g, f' = g + 1 := ⟨f' - 1, by omega⟩;rw [dF] at h ⊢;by_cases KX : Go.Proofs.YthnhbcohfoodlaaGreatDoor.pk L (aN L i) = 93
  ·have hl : aN L i < L.length := bA (by omega);rw [if_pos KX] at h;rw [E.skip hi hl, E.pk hl, if_pos KX];injection h with h; injection h with h3 h4; subst h3 h4;exact ⟨hl, rfl⟩
  rw [if_neg KX] at h;cases h1 : cU inner L (aN L i) with
  | error e => rw [h1] at h; cases h
  | ok q =>
   obtain ⟨t, a⟩ := q;obtain ⟨hl, ha, e1⟩ := Jo E hI _ _ _ h1;rw [h1] at h;rw [E.skip hi hl, E.pk hl, if_neg KX, e1];simp only at h ⊢;by_cases hw : (mq (pQ (Go.Proofs.YthnhbcohfoodlaaGreatDoor.pk L (aN L i))) cur t).2 ≠ 0
   ·rw [if_pos hw] at h; cases h
   rw [if_neg hw] at h ⊢;exact ih f' a _ _ _ (by omega) ha h
theorem x6 (hL : cA L) : ∀ n, NI p L (bu L n) (bu L' n) := by
 intro n;induction n with
 | zero => intro i s j h; unfold bu at h; cases h
 | succ n ih =>
  intro i s j h;refine ⟨(nD hL (n + 1) i s j h).1, ?_⟩;rw [bu] at h ⊢;cases h1 : aW L i 91 with
  | error e => rw [h1] at h; cases h
  | ok a =>
   obtain ⟨ha, e1⟩ := jd E h1 (by decide);rw [h1] at h;rw [e1];simp only at h ⊢;have c1 := E.is ha (r := 94) (by decide) (by decide) (by decide);have hst : (if Go.Proofs.YthnhbcohfoodlaaGreatDoor.pk L' (p + a) = 94 then p + a + 1 else p + a) = p + (if Go.Proofs.YthnhbcohfoodlaaGreatDoor.pk L a = 94 then a + 1 else a) := by
    by_cases kG : Go.Proofs.YthnhbcohfoodlaaGreatDoor.pk L a = 94
    ·rw [if_pos kG, if_pos (c1.2 kG)]; rfl
    rw [if_neg kG, if_neg (fun x => kG (c1.1 x))]
   rw [hst];have MX : (if Go.Proofs.YthnhbcohfoodlaaGreatDoor.pk L a = 94 then a + 1 else a) ≤ L.length := by
    split
    ·rename_i kG; exact bA (by omega)
    exact ha
   cases h2 : dF (bu L n) L (L.length + 1) (if Go.Proofs.YthnhbcohfoodlaaGreatDoor.pk L a = 94 then a + 1 else a) [] with
   | error e => rw [h2] at h; cases h
   | ok q =>
    obtain ⟨cur, k⟩ := q;obtain ⟨hk, e2⟩ := E8 E ih _ (L'.length + 1) _ _ _ _ (by have := E.len; omega) MX h2;rw [h2] at h;rw [e2];simp only at h ⊢;by_cases kG : Go.Proofs.YthnhbcohfoodlaaGreatDoor.pk L a = 94
    ·rw [if_pos kG] at h;rw [if_pos (c1.2 kG)];by_cases hw : (mq 94 cur []).2 ≠ 0
     ·rw [if_pos hw] at h; cases h
     rw [if_neg hw] at h ⊢;injection h with h; injection h with h3 h4; subst h3 h4;exact ⟨hk, rfl⟩
    rw [if_neg kG] at h;rw [if_neg (fun x => kG (c1.1 x))];injection h with h; injection h with h3 h4; subst h3 h4;exact ⟨hk, rfl⟩
end
end Go.Proofs.YthnhbcohfoodlaaGreatDoor
