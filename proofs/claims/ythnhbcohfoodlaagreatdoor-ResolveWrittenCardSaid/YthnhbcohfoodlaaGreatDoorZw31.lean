/- EdgesBoth + ClassMap + WholeBox -/
import Derived.Test.YthnhbcohfoodlaaGreatDoorZw6
import Derived.Test.YthnhbcohfoodlaaGreatDoorZw9
import Derived.Deep.DeepCutAuto
import Derived.Deep.CutBlock
import Derived.Test.YthnhbcohfoodlaaGreatDoorZw0
import Derived.Test.YthnhbcohfoodlaaGreatDoorZw29
import Derived.Test.YthnhbcohfoodlaaGreatDoorZw4
import Derived.Test.YthnhbcohfoodlaaGreatDoorZw7
import Derived.Deep.WholeRow
set_option maxHeartbeats 6400000
set_option maxRecDepth 100000
namespace Go.Proofs.YthnhbcohfoodlaaGreatDoor
open Go.RowKit
def bK (w : World) (g : Nat) (w' : World) : Prop := w.heap.size ≤ w'.heap.size ∧ w'.os = w.os ∧ w'.tape = w.tape ∧ w'.output = w.output ∧ ∀ k, k < w.heap.size → k ≠ g → w'.heap[k]? = w.heap[k]?
theorem bK.refl (w : World) (g : Nat) : bK w g w := ⟨Nat.le_refl _, rfl, rfl, rfl, fun _ _ _ => rfl⟩
theorem bK.trans {w w1 w2 : World} {g : Nat} (h : bK w g w1) (h2 : bK w1 g w2) : bK w g w2 :=
  ⟨Nat.le_trans h.1 h2.1, h2.2.1.trans h.2.1, h2.2.2.1.trans h.2.2.1, h2.2.2.2.1.trans h.2.2.2.1, fun k hk hne => (h2.2.2.2.2 k (Nat.lt_of_lt_of_le hk h.1) hne).trans (h.2.2.2.2 k hk hne)⟩
theorem bK.below {w w1 : World} (g : Nat) (h : Below w.heap.size w w1) : bK w g w1 := ⟨h.size, h.os, h.tape, h.output, fun k hk _ => h.block k hk⟩
theorem bK.set (w : World) (g i : Nat) (u : Value) : bK w g (w.setCell ⟨g, i, none⟩ u) := ⟨by simp, rfl, rfl, rfl, fun k _ hne => Below.heap_setCell _ _ _ _ hne⟩
theorem bK.to {w w1 : World} {g B : Nat} (h : bK w g w1) (hB : B ≤ w.heap.size) (hg : B ≤ g) : Below B w w1 := ⟨h.2.1, h.2.2.1, h.2.2.2.1, h.1, fun k hk => h.2.2.2.2 k (by omega) (by omega)⟩
theorem bK.drewN (w : World) (C k : Nat) : bK w C (w.drewN k) := bK.below C (below_drewN (Below.refl _ _) k)
theorem bK.keeps {w w1 : World} {g : Nat} {X X' : Nat → Prop} (h : bK w g w1) (hX : ∀ b, X b → b ≠ g) (h2 : ∀ b, X b → b < w.heap.size → X' b) : ag w X w1 X' :=
  fun b hb hl => ⟨h.2.2.2.2 b hl (hX b hb), h2 b hb hl, Nat.lt_of_lt_of_le hl h.1⟩
end Go.Proofs.YthnhbcohfoodlaaGreatDoor
namespace Go.Proofs.YthnhbcohfoodlaaGreatDoor
open Go.RowKit
end Go.Proofs.YthnhbcohfoodlaaGreatDoor
namespace Go.Proofs.YthnhbcohfoodlaaGreatDoor
open Go.RowKit Go.Maps
def nR (w : World) (lo mb n : Nat) (m : ByteArray → Option af) : Prop :=
  ∃ D : DataW Value, w.ownsMap Tryz.prog 9 Raw mb n D ∧ IsMap D ∧ ∀ s : ByteArray, match m s with
    | some set => ∃ u, D.atKey (eT s) sY = .held u ∧ has D (eT s) = true ∧ ∃ A k c, u = .slice A k c ∧ fl w (fun b => b ≠ mb ∧ lo ≤ b) 2 A k (ah set) ∧ k ≤ c
    | none => D.atKey (eT s) sY = sY ∧ has D (eT s) = false
def sZ (m : ByteArray → Option af) (k : ByteArray) (v : af) (s : ByteArray) : Option af := if s = k then some v else m s
theorem nR.keep {w w' : World} {lo mb n : Nat} {m : ByteArray → Option af} (hk : ag w (fun b => b ≠ mb ∧ lo ≤ b) w' (fun b => b ≠ mb ∧ lo ≤ b)) (hm : w'.heap[mb]? = w.heap[mb]?) (h : nR w lo mb n m) : nR w' lo mb n m := by
 obtain ⟨D, ⟨es, clock, h1, h2⟩, h3, h4⟩ := h;refine ⟨D, ⟨es, clock, hm.trans h1, h2⟩, h3, fun s => ?_⟩;have := h4 s;cases hl : m s with
 | none => rw [hl] at this; exact this
 | some set =>
  rw [hl] at this;obtain ⟨u, g1, g2, A, k, c, e, g3, g4⟩ := this;exact ⟨u, g1, g2, A, k, c, e, g3.keep hk, g4⟩
theorem nR.lt {w : World} {lo mb n : Nat} {m : ByteArray → Option af} (h : nR w lo mb n m) : mb < w.heap.size := by
 obtain ⟨D, h1, _⟩ := h;exact h1.lt
theorem nR.below {w w' : World} {lo mb n : Nat} {m : ByteArray → Option af} (h : nR w lo mb n m) (hb : Below w.heap.size w w') : nR w' lo mb n m := h.keep (ag.any hb) (hb.block mb h.lt)
theorem nR.made (w : World) (lo : Nat) : nR (w.alloc (.map #[] 0)) lo w.heap.size 0 (fun _ => none) :=
  ⟨.map [], World.ownsMap_made _ _ _ _, isMap_empty, fun s => ⟨by simp [DataW.atKey], by simp [has]⟩⟩
theorem nR.put {w : World} {lo mb n : Nat} {m : ByteArray → Option af} (h : nR w lo mb n m) (key : ByteArray) {set : af} {A : Option Addr} {k c : Nat} (hr : fl w (fun b => b ≠ mb ∧ lo ≤ b) 2 A k (ah set)) (hc : k ≤ c) :
    ∃ D : DataW Value, w.ownsMap Tryz.prog 9 Raw mb n D ∧ ∀ w' : World, w'.ownsMap Tryz.prog 9 Raw mb (n + 1) (D.put (eT key) (.held (.slice A k c))) → w.grownBy w' (some mb) → nR w' lo mb (n + 1) (sZ m key set) ∧ bK w mb w' := by
 obtain ⟨D, h1, h2, h3⟩ := h;refine ⟨D, h1, fun w' hown hg => ?_⟩;have hk : ag w (fun b => b ≠ mb ∧ lo ≤ b) w' (fun b => b ≠ mb ∧ lo ≤ b) := fun b hb hl => ⟨hg.block b hl (fun e => hb.1 (Option.some.inj e)), hb, Nat.lt_of_lt_of_le hl hg.size⟩;refine ⟨⟨_, hown, h2.put _ _, fun s => ?_⟩, hg.size, hg.os, hg.tape, hg.output, fun b hb hne => hg.block b hb (fun e => hne (Option.some.inj e))⟩;unfold sZ;by_cases hs : s = key
 ·subst hs;rw [if_pos rfl];exact ⟨_, atKey_put_same h2 (tJ _) _ _, has_put_same h2 (tJ _) _, A, k, c, rfl, hr.keep hk, hc⟩
 rw [if_neg hs];have hne : eT s ≠ eT key := fun e => hs (BY e);have := h3 s;cases hl : m s with
 | none =>
  rw [hl] at this;dsimp only;rw [atKey_put_other hne, has_put_other hne];exact this
 | some x =>
  rw [hl] at this;obtain ⟨v, g1, g2, A', k', c', e, g3, g4⟩ := this;exact ⟨v, by rw [atKey_put_other hne]; exact g1, by rw [has_put_other hne]; exact g2, A', k', c', e, g3.keep hk, g4⟩
def PZ : ByteArray := ⟨#[100, 105, 103, 105, 116]⟩
def cs0 : af := [(48, 57)]
def Q6 : ByteArray := ⟨#[108, 111, 119, 101, 114]⟩
def Qw : af := [(97, 122), (223, 246), (248, 255)]
def P5 : ByteArray := ⟨#[117, 112, 112, 101, 114]⟩
def Pf : af := [(65, 90), (192, 214), (216, 222)]
def Rn : ByteArray := ⟨#[108, 101, 116, 116, 101, 114]⟩
def Rk : af := [(65, 90), (97, 122), (192, 214), (216, 246), (248, 255)]
def PW : ByteArray := ⟨#[118, 111, 119, 101, 108]⟩
def Qa : af := [(65, 65), (69, 69), (73, 73), (79, 79), (85, 85), (97, 97), (101, 101), (105, 105), (111, 111), (117, 117)]
def Qv : ByteArray := ⟨#[103, 114, 101, 101, 107]⟩
def SV : af := [(880, 1023)]
def Pu : ByteArray := ⟨#[99, 121, 114, 105, 108, 108, 105, 99]⟩
def SY : af := [(1024, 1279)]
def Qc : ByteArray := ⟨#[115, 112, 97, 99, 101]⟩
def Sj : af := [(9, 10), (32, 32)]
def RY : ByteArray := ⟨#[97, 110, 121]⟩
def SH : af := [(0, 1114111)]
def vC : ByteArray → Option af := (sZ (sZ (sZ (sZ (sZ (sZ (sZ (sZ (sZ (fun _ => none) PZ cs0) Q6 Qw) P5 Pf) Rn Rk) PW Qa) Qv SV) Pu SY) Qc Sj) RY SH)
theorem jL {l m : List Int} {k : ByteArray} (hk : k = runesBytes m) (hm : cX m) : (runesBytes l = k) = (l = m) := by
 subst hk;exact propext ⟨wE hm, fun h => by rw [h]⟩
theorem mm {k : ByteArray} {m : List Int} (hm : cX m) (h : k.data.toList = mE m) : k = runesBytes m := by
 rw [← dY hm] at h;exact ByteArray.ext (Array.ext' h)
theorem De (l : List Int) : vC (runesBytes l) = gz l := by
 have e0 : (runesBytes l = PZ) = (l = [100, 105, 103, 105, 116]) := jL (mm (by unfold cX; decide) (by decide)) (by unfold cX; decide);have e1 : (runesBytes l = Q6) = (l = [108, 111, 119, 101, 114]) := jL (mm (by unfold cX; decide) (by decide)) (by unfold cX; decide);have e2 : (runesBytes l = P5) = (l = [117, 112, 112, 101, 114]) := jL (mm (by unfold cX; decide) (by decide)) (by unfold cX; decide);have e3 : (runesBytes l = Rn) = (l = [108, 101, 116, 116, 101, 114]) := jL (mm (by unfold cX; decide) (by decide)) (by unfold cX; decide);have e4 : (runesBytes l = PW) = (l = [118, 111, 119, 101, 108]) := jL (mm (by unfold cX; decide) (by decide)) (by unfold cX; decide);have e5 : (runesBytes l = Qv) = (l = [103, 114, 101, 101, 107]) := jL (mm (by unfold cX; decide) (by decide)) (by unfold cX; decide);have e6 : (runesBytes l = Pu) = (l = [99, 121, 114, 105, 108, 108, 105, 99]) := jL (mm (by unfold cX; decide) (by decide)) (by unfold cX; decide);have e7 : (runesBytes l = Qc) = (l = [115, 112, 97, 99, 101]) := jL (mm (by unfold cX; decide) (by decide)) (by unfold cX; decide);have e8 : (runesBytes l = RY) = (l = [97, 110, 121]) := jL (mm (by unfold cX; decide) (by decide)) (by unfold cX; decide);unfold vC sZ gz;simp only [e0, e1, e2, e3, e4, e5, e6, e7, e8];clear e0 e1 e2 e3 e4 e5 e6 e7 e8;by_cases h0 : l = [100, 105, 103, 105, 116]
 ·subst h0; rfl
 by_cases h1 : l = [108, 111, 119, 101, 114]
 ·subst h1; rfl
 by_cases h2 : l = [117, 112, 112, 101, 114]
 ·subst h2; rfl
 by_cases h3 : l = [108, 101, 116, 116, 101, 114]
 ·subst h3; rfl
 by_cases h4 : l = [118, 111, 119, 101, 108]
 ·subst h4; rfl
 by_cases h5 : l = [103, 114, 101, 101, 107]
 ·subst h5; rfl
 by_cases h6 : l = [99, 121, 114, 105, 108, 108, 105, 99]
 ·subst h6; rfl
 by_cases h7 : l = [115, 112, 97, 99, 101]
 ·subst h7; rfl
 by_cases h8 : l = [97, 110, 121]
 ·subst h8; rfl
 simp only [h0, h1, h2, h3, h4, h5, h6, h7, h8, if_false]
def ny (w : World) (s : ByteArray) (e : Ending) (w' : World) : Prop :=
  (match vC s with
  | some set => ∃ A n c, e = .returned (.tuple #[.slice A n c, .bool true]) ∧ fl w' (fun b => w.heap.size ≤ b) 2 A n (ah set) ∧ n ≤ c
  | none => e = .returned (.tuple #[.slice none 0 0, .bool false])) ∧ Below w.heap.size w w'
theorem Fs (w : World) : (zeroValue 22).run Tryz.prog w = .ok (.slice none 0 0) w := by kernel_rfl
theorem nR.ask {w : World} {lo mb n : Nat} {m : ByteArray → Option af} (h : nR w lo mb n m) (s : ByteArray) :
    ∃ D u q, w.ownsMap Tryz.prog 9 Raw mb n D ∧ D.atKey (eT s) sY = .held u ∧ has D (eT s) = q ∧ (match m s with
      | some set => q = true ∧ ∃ A k c, u = .slice A k c ∧ fl w (fun b => b ≠ mb ∧ lo ≤ b) 2 A k (ah set) ∧ k ≤ c
      | none => q = false ∧ u = .slice none 0 0) := by
 obtain ⟨D, h1, _, h3⟩ := h;have := h3 s;cases hl : m s with
 | none =>
  rw [hl] at this;exact ⟨D, _, _, h1, this.1, this.2, rfl, rfl⟩
 | some x =>
  rw [hl] at this;obtain ⟨u, g1, g2, g3⟩ := this;exact ⟨D, u, true, h1, g1, g2, rfl, g3⟩
theorem fA (W : World) (cs : af) (N : Nat) (hN : N = 2 * cs.length) (hn : N ≤ 1000) :
    Calls Tryz.prog 161 #[.slice (some ⟨W.heap.size, 0, none⟩) N N] (W.alloc (.cells (ah cs).toArray 21)) (cY W cs 1000) := by
 have hb := (Below.refl W.heap.size W).alloc (Nat.le_refl _) (.cells (ah cs).toArray 21);refine (CV W.heap.size 0 N cs N _ hN hn (by simp) (fun j u hu => ?_)).mono ?_
 ·rw [Nat.zero_add, (au.new W 21 (ah cs).toArray).cell];simpa using hu
 rintro e w1 ⟨A, k, c, rfl, h1, h2, h3, h4⟩;exact ⟨A, k, c, rfl, h1.keep (ag.refl (fun b h => by simp at h; omega)), h2, h3, hb.trans (h4.mono (by simp))⟩
theorem GA (s : ByteArray) (w : World) (hs : s.size ≤ maxLen) :
    Calls Tryz.prog 129 #[.string s] w (ny w s) := by
 have HS := Lib.hid hs;have sn := Lib.hid (nR.made w w.heap.size);have jR := Lib.hid ((Below.refl w.heap.size w).alloc (Nat.le_refl _) (.map #[] 0));have hmm : ∀ W : World, (Instr.makeMap 158 none).run Tryz.prog W = .ok (.map (some W.heap.size)) (W.alloc (.map #[] 0)) := fun W => rfl;clear hs;have Mt := Lib.hid (fun (W : World) => show Calls Tryz.prog 161 #[.slice (some ⟨W.heap.size, 0, none⟩) 2 2] (W.alloc (.cells #[.int .i32 48, .int .i32 57] 21)) (cY W cs0 1000) from fA W cs0 2 (by decide) (by decide));have ia := Lib.hid (show keyOf Tryz.prog 9 (.string ⟨#[100, 105, 103, 105, 116]⟩) = some (eT PZ) from jt (s := PZ) (by show (5 : Nat) ≤ maxLen; simp only [maxLen]; omega));have jo := Lib.hid (fun (W : World) => show Calls Tryz.prog 161 #[.slice (some ⟨W.heap.size, 0, none⟩) 6 6] (W.alloc (.cells #[.int .i32 97, .int .i32 122, .int .i32 223, .int .i32 246, .int .i32 248, .int .i32 255] 21)) (cY W Qw 1000) from fA W Qw 6 (by decide) (by decide));have tI := Lib.hid (show keyOf Tryz.prog 9 (.string ⟨#[108, 111, 119, 101, 114]⟩) = some (eT Q6) from jt (s := Q6) (by show (5 : Nat) ≤ maxLen; simp only [maxLen]; omega));have qt := Lib.hid (fun (W : World) => show Calls Tryz.prog 161 #[.slice (some ⟨W.heap.size, 0, none⟩) 6 6] (W.alloc (.cells #[.int .i32 65, .int .i32 90, .int .i32 192, .int .i32 214, .int .i32 216, .int .i32 222] 21)) (cY W Pf 1000) from fA W Pf 6 (by decide) (by decide));have EE := Lib.hid (show keyOf Tryz.prog 9 (.string ⟨#[117, 112, 112, 101, 114]⟩) = some (eT P5) from jt (s := P5) (by show (5 : Nat) ≤ maxLen; simp only [maxLen]; omega))
 have o8 := Lib.hid (fun (W : World) => show Calls Tryz.prog 161 #[.slice (some ⟨W.heap.size, 0, none⟩) 10 10] (W.alloc (.cells #[.int .i32 65, .int .i32 90, .int .i32 97, .int .i32 122, .int .i32 192, .int .i32 214, .int .i32 216, .int .i32 246, .int .i32 248, .int .i32 255] 21)) (cY W Rk 1000) from fA W Rk 10 (by decide) (by decide));have Kg := Lib.hid (show keyOf Tryz.prog 9 (.string ⟨#[108, 101, 116, 116, 101, 114]⟩) = some (eT Rn) from jt (s := Rn) (by show (6 : Nat) ≤ maxLen; simp only [maxLen]; omega));have AY := Lib.hid (fun (W : World) => show Calls Tryz.prog 161 #[.slice (some ⟨W.heap.size, 0, none⟩) 20 20] (W.alloc (.cells #[.int .i32 65, .int .i32 65, .int .i32 69, .int .i32 69, .int .i32 73, .int .i32 73, .int .i32 79, .int .i32 79, .int .i32 85, .int .i32 85, .int .i32 97, .int .i32 97, .int .i32 101, .int .i32 101, .int .i32 105, .int .i32 105, .int .i32 111, .int .i32 111, .int .i32 117, .int .i32 117] 21)) (cY W Qa 1000) from fA W Qa 20 (by decide) (by decide));have SK := Lib.hid (show keyOf Tryz.prog 9 (.string ⟨#[118, 111, 119, 101, 108]⟩) = some (eT PW) from jt (s := PW) (by show (5 : Nat) ≤ maxLen; simp only [maxLen]; omega));have tq := Lib.hid (fun (W : World) => show Calls Tryz.prog 161 #[.slice (some ⟨W.heap.size, 0, none⟩) 2 2] (W.alloc (.cells #[.int .i32 880, .int .i32 1023] 21)) (cY W SV 1000) from fA W SV 2 (by decide) (by decide));have YX := Lib.hid (show keyOf Tryz.prog 9 (.string ⟨#[103, 114, 101, 101, 107]⟩) = some (eT Qv) from jt (s := Qv) (by show (5 : Nat) ≤ maxLen; simp only [maxLen]; omega))
 have Gt := Lib.hid (fun (W : World) => show Calls Tryz.prog 161 #[.slice (some ⟨W.heap.size, 0, none⟩) 2 2] (W.alloc (.cells #[.int .i32 1024, .int .i32 1279] 21)) (cY W SY 1000) from fA W SY 2 (by decide) (by decide));have HK6 := Lib.hid (show keyOf Tryz.prog 9 (.string ⟨#[99, 121, 114, 105, 108, 108, 105, 99]⟩) = some (eT Pu) from jt (s := Pu) (by show (8 : Nat) ≤ maxLen; simp only [maxLen]; omega));have GI := Lib.hid (fun (W : World) => show Calls Tryz.prog 161 #[.slice (some ⟨W.heap.size, 0, none⟩) 4 4] (W.alloc (.cells #[.int .i32 9, .int .i32 10, .int .i32 32, .int .i32 32] 21)) (cY W Sj 1000) from fA W Sj 4 (by decide) (by decide));have Y0 := Lib.hid (show keyOf Tryz.prog 9 (.string ⟨#[115, 112, 97, 99, 101]⟩) = some (eT Qc) from jt (s := Qc) (by show (5 : Nat) ≤ maxLen; simp only [maxLen]; omega));have N7 := Lib.hid (fun (W : World) => show Calls Tryz.prog 161 #[.slice (some ⟨W.heap.size, 0, none⟩) 2 2] (W.alloc (.cells #[.int .i32 0, .int .i32 1114111] 21)) (cY W SH 1000) from fA W SH 2 (by decide) (by decide));have YH := Lib.hid (show keyOf Tryz.prog 9 (.string ⟨#[97, 110, 121]⟩) = some (eT RY) from jt (s := RY) (by show (3 : Nat) ≤ maxLen; simp only [maxLen]; omega));have Tu := Lib.hid (show Calls Tryz.prog 161 #[.slice (some ⟨w.heap.size + 1, 0, none⟩) 2 2] ((w.alloc (.map #[] 0)).alloc (.cells #[.int .i32 48, .int .i32 57] 21)) (cY (w.alloc (.map #[] 0)) cs0 1000) by have := Mt.out (w.alloc (.map #[] 0)); simpa using this);have TS := Lib.hid (show w.heap.size < (w.alloc (.map #[] 0)).heap.size by simp);go_enter Tryz.func129, Tryz.ntmps129;go_wp2_with fail;refine Tu.out.mono ?_;rintro e w0 ⟨A0, k0, c0, rfl, hr, hk, hc, hb⟩
 have TH := Lib.hid (jR.out.trans (hb.mono (Nat.le_of_lt TS.out)));obtain ⟨D0, hown, hput⟩ := (sn.out.below hb).put PZ (set := cs0) (hr.keep (ag.refl (X' := fun b => b ≠ w.heap.size ∧ w.heap.size ≤ b) (fun b h => by have := TS.out; omega))) hc;have P0 := Lib.hid (show w.heap.size < w0.heap.size from Nat.lt_of_lt_of_le TS.out hb.size);have Zp := Lib.hid hown;have B7 := Lib.hid hput;clear hr hk hc hb hown hput;go_wp2_with (first | (refine bR _ rfl (.tmp 8) _ _ 158 rfl 9 22 gK Tryz.underlying158 Raw w.heap.size 0 _ rfl Zp.out (by unfold maxLen; omega) _ _ _ rfl rfl ia.out (.held (.slice A0 k0 c0)) [] rfl ?_; intro v0 hown hgrow; have HM1 := Lib.hid (B7.out v0 hown hgrow).1; have cy := Lib.hid (TH.out.trans ((B7.out v0 hown hgrow).2.to (Nat.le_of_lt P0.out) (Nat.le_refl _))); have Kl := Lib.hid (show w.heap.size < v0.heap.size from Nat.lt_of_lt_of_le P0.out hgrow.size); clear hown hgrow) | fail);refine (jo.out _).mono ?_;rintro e w1 ⟨A1, k1, c1, rfl, hr, hk, hc, hb⟩;have U4 := Lib.hid (cy.out.trans (hb.mono (Nat.le_of_lt Kl.out)));obtain ⟨D1, hown, hput⟩ := (HM1.out.below hb).put Q6 (set := Qw) (hr.keep (ag.refl (X' := fun b => b ≠ w.heap.size ∧ w.heap.size ≤ b) (fun b h => by have := Kl.out; omega))) hc;have QB := Lib.hid (show w.heap.size < w1.heap.size from Nat.lt_of_lt_of_le Kl.out hb.size);have uQ := Lib.hid hown;have qJ := Lib.hid hput;clear hr hk hc hb hown hput
 go_wp2_with (first | (refine bR _ rfl (.tmp 8) _ _ 158 rfl 9 22 gK Tryz.underlying158 Raw w.heap.size 1 _ rfl uQ.out (by unfold maxLen; omega) _ _ _ rfl rfl tI.out (.held (.slice A1 k1 c1)) [] rfl ?_; intro v1 hown hgrow; have YG := Lib.hid (qJ.out v1 hown hgrow).1; have cE := Lib.hid (U4.out.trans ((qJ.out v1 hown hgrow).2.to (Nat.le_of_lt QB.out) (Nat.le_refl _))); have LO := Lib.hid (show w.heap.size < v1.heap.size from Nat.lt_of_lt_of_le QB.out hgrow.size); clear hown hgrow) | fail);refine (qt.out _).mono ?_;rintro e w2 ⟨A2, k2, c2, rfl, hr, hk, hc, hb⟩;have TX := Lib.hid (cE.out.trans (hb.mono (Nat.le_of_lt LO.out)));obtain ⟨D2, hown, hput⟩ := (YG.out.below hb).put P5 (set := Pf) (hr.keep (ag.refl (X' := fun b => b ≠ w.heap.size ∧ w.heap.size ≤ b) (fun b h => by have := LO.out; omega))) hc;have PL := Lib.hid (show w.heap.size < w2.heap.size from Nat.lt_of_lt_of_le LO.out hb.size);have kC := Lib.hid hown;have gl := Lib.hid hput;clear hr hk hc hb hown hput;go_wp2_with (first | (refine bR _ rfl (.tmp 8) _ _ 158 rfl 9 22 gK Tryz.underlying158 Raw w.heap.size 2 _ rfl kC.out (by unfold maxLen; omega) _ _ _ rfl rfl EE.out (.held (.slice A2 k2 c2)) [] rfl ?_; intro v2 hown hgrow; have HM3 := Lib.hid (gl.out v2 hown hgrow).1; have dQ := Lib.hid (TX.out.trans ((gl.out v2 hown hgrow).2.to (Nat.le_of_lt PL.out) (Nat.le_refl _))); have Ot := Lib.hid (show w.heap.size < v2.heap.size from Nat.lt_of_lt_of_le PL.out hgrow.size); clear hown hgrow) | fail);refine (o8.out _).mono ?_;rintro e w3 ⟨A3, k3, c3, rfl, hr, hk, hc, hb⟩;have Tx := Lib.hid (dQ.out.trans (hb.mono (Nat.le_of_lt Ot.out)))
 obtain ⟨D3, hown, hput⟩ := (HM3.out.below hb).put Rn (set := Rk) (hr.keep (ag.refl (X' := fun b => b ≠ w.heap.size ∧ w.heap.size ≤ b) (fun b h => by have := Ot.out; omega))) hc;have RD := Lib.hid (show w.heap.size < w3.heap.size from Nat.lt_of_lt_of_le Ot.out hb.size);have tg := Lib.hid hown;have zl := Lib.hid hput;clear hr hk hc hb hown hput;go_wp2_with (first | (refine bR _ rfl (.tmp 8) _ _ 158 rfl 9 22 gK Tryz.underlying158 Raw w.heap.size 3 _ rfl tg.out (by unfold maxLen; omega) _ _ _ rfl rfl Kg.out (.held (.slice A3 k3 c3)) [] rfl ?_; intro v3 hown hgrow; have HM4 := Lib.hid (zl.out v3 hown hgrow).1; have iW := Lib.hid (Tx.out.trans ((zl.out v3 hown hgrow).2.to (Nat.le_of_lt RD.out) (Nat.le_refl _))); have Tm := Lib.hid (show w.heap.size < v3.heap.size from Nat.lt_of_lt_of_le RD.out hgrow.size); clear hown hgrow) | fail);refine (AY.out _).mono ?_;rintro e w4 ⟨A4, k4, c4, rfl, hr, hk, hc, hb⟩;have U' := Lib.hid (iW.out.trans (hb.mono (Nat.le_of_lt Tm.out)));obtain ⟨D4, hown, hput⟩ := (HM4.out.below hb).put PW (set := Qa) (hr.keep (ag.refl (X' := fun b => b ≠ w.heap.size ∧ w.heap.size ≤ b) (fun b h => by have := Tm.out; omega))) hc;have Ra := Lib.hid (show w.heap.size < w4.heap.size from Nat.lt_of_lt_of_le Tm.out hb.size);have CR := Lib.hid hown;have WE := Lib.hid hput;clear hr hk hc hb hown hput
 go_wp2_with (first | (refine bR _ rfl (.tmp 8) _ _ 158 rfl 9 22 gK Tryz.underlying158 Raw w.heap.size 4 _ rfl CR.out (by unfold maxLen; omega) _ _ _ rfl rfl SK.out (.held (.slice A4 k4 c4)) [] rfl ?_; intro v4 hown hgrow; have HM5 := Lib.hid (WE.out v4 hown hgrow).1; have fR := Lib.hid (U'.out.trans ((WE.out v4 hown hgrow).2.to (Nat.le_of_lt Ra.out) (Nat.le_refl _))); have VQ := Lib.hid (show w.heap.size < v4.heap.size from Nat.lt_of_lt_of_le Ra.out hgrow.size); clear hown hgrow) | fail);refine (tq.out _).mono ?_;rintro e w5 ⟨A5, k5, c5, rfl, hr, hk, hc, hb⟩;have VA := Lib.hid (fR.out.trans (hb.mono (Nat.le_of_lt VQ.out)));obtain ⟨D5, hown, hput⟩ := (HM5.out.below hb).put Qv (set := SV) (hr.keep (ag.refl (X' := fun b => b ≠ w.heap.size ∧ w.heap.size ≤ b) (fun b h => by have := VQ.out; omega))) hc;have RI := Lib.hid (show w.heap.size < w5.heap.size from Nat.lt_of_lt_of_le VQ.out hb.size);have GG := Lib.hid hown;have LW := Lib.hid hput;clear hr hk hc hb hown hput;go_wp2_with (first | (refine bR _ rfl (.tmp 8) _ _ 158 rfl 9 22 gK Tryz.underlying158 Raw w.heap.size 5 _ rfl GG.out (by unfold maxLen; omega) _ _ _ rfl rfl YX.out (.held (.slice A5 k5 c5)) [] rfl ?_; intro v5 hown hgrow; have YQ := Lib.hid (LW.out v5 hown hgrow).1; have jM := Lib.hid (VA.out.trans ((LW.out v5 hown hgrow).2.to (Nat.le_of_lt RI.out) (Nat.le_refl _))); have Uj := Lib.hid (show w.heap.size < v5.heap.size from Nat.lt_of_lt_of_le RI.out hgrow.size); clear hown hgrow) | fail);refine (Gt.out _).mono ?_;rintro e w6 ⟨A6, k6, c6, rfl, hr, hk, hc, hb⟩;have VS := Lib.hid (jM.out.trans (hb.mono (Nat.le_of_lt Uj.out)))
 obtain ⟨D6, hown, hput⟩ := (YQ.out.below hb).put Pu (set := SY) (hr.keep (ag.refl (X' := fun b => b ≠ w.heap.size ∧ w.heap.size ≤ b) (fun b h => by have := Uj.out; omega))) hc;have RQ := Lib.hid (show w.heap.size < w6.heap.size from Nat.lt_of_lt_of_le Uj.out hb.size);have B5 := Lib.hid hown;have Oq := Lib.hid hput;clear hr hk hc hb hown hput;go_wp2_with (first | (refine bR _ rfl (.tmp 8) _ _ 158 rfl 9 22 gK Tryz.underlying158 Raw w.heap.size 6 _ rfl B5.out (by unfold maxLen; omega) _ _ _ rfl rfl HK6.out (.held (.slice A6 k6 c6)) [] rfl ?_; intro v6 hown hgrow; have Zq := Lib.hid (Oq.out v6 hown hgrow).1; have qC := Lib.hid (VS.out.trans ((Oq.out v6 hown hgrow).2.to (Nat.le_of_lt RQ.out) (Nat.le_refl _))); have V2 := Lib.hid (show w.heap.size < v6.heap.size from Nat.lt_of_lt_of_le RQ.out hgrow.size); clear hown hgrow) | fail);refine (GI.out _).mono ?_;rintro e w7 ⟨A7, k7, c7, rfl, hr, hk, hc, hb⟩;have Ur := Lib.hid (qC.out.trans (hb.mono (Nat.le_of_lt V2.out)));obtain ⟨D7, hown, hput⟩ := (Zq.out.below hb).put Qc (set := Sj) (hr.keep (ag.refl (X' := fun b => b ≠ w.heap.size ∧ w.heap.size ≤ b) (fun b h => by have := V2.out; omega))) hc;have Pv := Lib.hid (show w.heap.size < w7.heap.size from Nat.lt_of_lt_of_le V2.out hb.size);have N5 := Lib.hid hown;have SI := Lib.hid hput;clear hr hk hc hb hown hput
 go_wp2_with (first | (refine bR _ rfl (.tmp 8) _ _ 158 rfl 9 22 gK Tryz.underlying158 Raw w.heap.size 7 _ rfl N5.out (by unfold maxLen; omega) _ _ _ rfl rfl Y0.out (.held (.slice A7 k7 c7)) [] rfl ?_; intro v7 hown hgrow; have HM8 := Lib.hid (SI.out v7 hown hgrow).1; have Ep := Lib.hid (Ur.out.trans ((SI.out v7 hown hgrow).2.to (Nat.le_of_lt Pv.out) (Nat.le_refl _))); have Tk := Lib.hid (show w.heap.size < v7.heap.size from Nat.lt_of_lt_of_le Pv.out hgrow.size); clear hown hgrow) | fail);refine (N7.out _).mono ?_;rintro e w8 ⟨A8, k8, c8, rfl, hr, hk, hc, hb⟩;have UB := Lib.hid (Ep.out.trans (hb.mono (Nat.le_of_lt Tk.out)));obtain ⟨D8, hown, hput⟩ := (HM8.out.below hb).put RY (set := SH) (hr.keep (ag.refl (X' := fun b => b ≠ w.heap.size ∧ w.heap.size ≤ b) (fun b h => by have := Tk.out; omega))) hc;have Ri := Lib.hid (show w.heap.size < w8.heap.size from Nat.lt_of_lt_of_le Tk.out hb.size);have Qk := Lib.hid hown;have Cw := Lib.hid hput;clear hr hk hc hb hown hput
 go_wp2_with (first | (refine bR _ rfl (.tmp 8) _ _ 158 rfl 9 22 gK Tryz.underlying158 Raw w.heap.size 8 _ rfl Qk.out (by unfold maxLen; omega) _ _ _ rfl rfl YH.out (.held (.slice A8 k8 c8)) [] rfl ?_; intro v8 hown hgrow; have YK := Lib.hid (Cw.out v8 hown hgrow).1; have iR := Lib.hid (UB.out.trans ((Cw.out v8 hown hgrow).2.to (Nat.le_of_lt Ri.out) (Nat.le_refl _))); have Qh := Lib.hid (show w.heap.size < v8.heap.size from Nat.lt_of_lt_of_le Ri.out hgrow.size); clear hown hgrow; obtain ⟨D9, u9, q9, hown, kE, Q0, hpost⟩ := YK.out.ask s; have kB := Lib.hid hown; have HA9 := Lib.hid kE; have HH9 := Lib.hid Q0; have Px := Lib.hid hpost; clear hown kE Q0 hpost) | (at_lookup; refine uo rfl (.tmp 36) (.tmp 37) 158 22 rfl Tryz.underlying158 (z := .slice none 0 0) (Fs _) w.heap.size 9 D9 rfl kB.out s rfl HS.out u9 q9 HA9.out HH9.out ?_) | fail);go_ret2;have hp := Px.out;unfold ny;change (match vC s with | some set => _ | none => _) at hp;cases hT : vC s with
 | none =>
  rw [hT] at hp;obtain ⟨rfl, rfl⟩ := hp;exact ⟨rfl, iR.out⟩
 | some set =>
  rw [hT] at hp;obtain ⟨rfl, A, k, c, rfl, h1, h2⟩ := hp;exact ⟨⟨A, k, c, rfl, h1.keep (ag.refl (fun b h => h.2)), h2⟩, iR.out⟩
end Go.Proofs.YthnhbcohfoodlaaGreatDoor
namespace Go.Proofs.YthnhbcohfoodlaaGreatDoor
open Go.RowKit
theorem Kp {w : World} {g : Nat} {t : TypeId} {c c' : Array Value} (h : au w g t c) : au (w.setRow g c') g t c' := setRow_heap w g c c' t (0, 0) h
theorem Ez (w : World) (g : Nat) (c : Array Value) : bK w g (w.setRow g c) := ⟨by simp, rfl, rfl, rfl, fun k _ hne => setRow_other w g k c hne⟩
section
variable {ops : Array Oper} {rest : List Oper} {o : Oper} {a : Act} {w : World} {Q : Exit → Act → World → Prop} {ty t : TypeId} {x y : Operand} {g : Nat}
theorem wpList_load_row {cs : Array Value} (hgd : o.guard = none) (ho : o.op = .load ty x) (hu : ∃ fs, Tryz.prog.underlying ty = some (.struct fs)) (hi : (Tryz.prog.info? ty).map (·.size) = some cs.size)
    (hx : a.eval x = .pointer (some ⟨g, 0, none⟩)) (hb : au w g t cs) (h : wpList Tryz.prog ops Q rest (a.put o.dst (.agg cs)) w) : wpList Tryz.prog ops Q (o :: rest) a w := by
 obtain ⟨fs, hu⟩ := hu;refine wpList_plain hgd fun K hK => ?_;have hr : (execOp a.eval o).run Tryz.prog w = .ok (.value (.agg cs)) w := by
  unfold execOp;rw [ho];simp only [hx, Instr.loadAt, Instr.sureAddr, Sem.run_bind, Sem.run_pure, Result.andThen, run_loadVar_row w g t ty cs (0, 0) (.struct fs) hb hu rfl hi]
 unfold Oper.wp;rw [hr];exact hK _ _ h
theorem wpList_store_row {c vs : Array Value} (hgd : o.guard = none) (ho : o.op = .store ty x y) (hi : (Tryz.prog.info? ty).map (·.size) = some vs.size) (hs : c.size = vs.size) (h1 : vs.all (·.oneCell') = true)
    (hx : a.eval x = .pointer (some ⟨g, 0, none⟩)) (hy : a.eval y = .agg vs) (hb : au w g t c) (h : wpList Tryz.prog ops Q rest (a.put o.dst undef) (w.setRow g vs)) : wpList Tryz.prog ops Q (o :: rest) a w := by
 refine wpList_plain hgd fun K hK => ?_;have hr : (execOp a.eval o).run Tryz.prog w = .ok .skip (w.setRow g vs) := by
  unfold execOp;rw [ho];simp only [hx, hy, Instr.storeAt, Instr.sureAddr, Sem.run_bind, Sem.run_pure, Result.andThen, run_storeVar_row w g t ty c vs hb hi hs h1]
 unfold Oper.wp;rw [hr];exact hK _ _ h
theorem kL {fn : Func} {p : Tmp} {tmps : Array Value} {cs : Array Value} (h : fn.results = #[.cell p ty]) (hp : tmps.getD p undef = .pointer (some ⟨g, 0, none⟩)) (hu : ∃ fs, Tryz.prog.underlying ty = some (.struct fs)) (hi : (Tryz.prog.info? ty).map (·.size) = some cs.size) (hb : au w g t cs) :
    (results fn tmps).run Tryz.prog w = .ok (.agg cs) w := by
 obtain ⟨fs, hu⟩ := hu;have hl := run_loadVar_row w g t ty cs (0, 0) (.struct fs) hb hu rfl hi;have hp2 : tmps[p]?.getD undef = .pointer (some ⟨g, 0, none⟩) := (by simpa using hp);simp only [results, h];simp [hp2, asAddr, hl]
end
end Go.Proofs.YthnhbcohfoodlaaGreatDoor
