/- EdgesBoth + ClassMap + WholeBox -/
import Derived.Test.YthnhbcohfoodlaaGreatDoorZt8
import Derived.Test.YthnhbcohfoodlaaGreatDoorZt13
import Derived.Deep.DeepCutAuto
import Derived.Deep.CutBlock
import Derived.Test.YthnhbcohfoodlaaGreatDoorZt1
import Derived.Test.YthnhbcohfoodlaaGreatDoorZt29
import Derived.Test.YthnhbcohfoodlaaGreatDoorZt5
import Derived.Test.YthnhbcohfoodlaaGreatDoorZt9
import Derived.Deep.WholeRow
namespace Go.Proofs.YthnhbcohfoodlaaGreatDoor
open Go.RowKit
def EdgeSt (lo g : Nat) (E : List Int) (w : World) : Prop := ∃ (A : Option Addr) (n c : Nat), Blk w g 61 #[.slice A n c] ∧ RdX w (fun b => b ≠ g ∧ lo ≤ b) 1 A n (runeCells E) ∧ n ≤ c
def But (w : World) (g : Nat) (w' : World) : Prop := w.heap.size ≤ w'.heap.size ∧ w'.os = w.os ∧ w'.tape = w.tape ∧ w'.output = w.output ∧ ∀ k, k < w.heap.size → k ≠ g → w'.heap[k]? = w.heap[k]?
theorem But.refl (w : World) (g : Nat) : But w g w := ⟨Nat.le_refl _, rfl, rfl, rfl, fun _ _ _ => rfl⟩
theorem But.trans {w w1 w2 : World} {g : Nat} (h : But w g w1) (h2 : But w1 g w2) : But w g w2 :=
 ⟨Nat.le_trans h.1 h2.1, h2.2.1.trans h.2.1, h2.2.2.1.trans h.2.2.1, h2.2.2.2.1.trans h.2.2.2.1, fun k hk hne => (h2.2.2.2.2 k (Nat.lt_of_lt_of_le hk h.1) hne).trans (h.2.2.2.2 k hk hne)⟩
theorem But.below {w w1 : World} (g : Nat) (h : Below w.heap.size w w1) : But w g w1 := ⟨h.size, h.os, h.tape, h.output, fun k hk _ => h.block k hk⟩
theorem But.set (w : World) (g i : Nat) (u : Value) : But w g (w.setCell ⟨g, i, none⟩ u) := ⟨by simp, rfl, rfl, rfl, fun k _ hne => Below.heap_setCell _ _ _ _ hne⟩
theorem But.to {w w1 : World} {g B : Nat} (h : But w g w1) (hB : B ≤ w.heap.size) (hg : B ≤ g) : Below B w w1 := ⟨h.2.1, h.2.2.1, h.2.2.2.1, h.1, fun k hk => h.2.2.2.2 k (by omega) (by omega)⟩
theorem But.drewN (w : World) (C k : Nat) : But w C (w.drewN k) := But.below C (below_drewN (Below.refl _ _) k)
theorem But.keeps {w w1 : World} {g : Nat} {X X' : Nat → Prop} (h : But w g w1) (hX : ∀ b, X b → b ≠ g) (h2 : ∀ b, X b → b < w.heap.size → X' b) : Keeps w X w1 X' :=
 fun b hb hl => ⟨h.2.2.2.2 b hl (hX b hb), h2 b hb hl, Nat.lt_of_lt_of_le hl h.1⟩
end Go.Proofs.YthnhbcohfoodlaaGreatDoor
namespace Go.Proofs.YthnhbcohfoodlaaGreatDoor
open Go.RowKit
theorem EdgeSt.below {lo g : Nat} {E : List Int} {w w' : World} (h : EdgeSt lo g E w) (hb : Below w.heap.size w w') : EdgeSt lo g E w' := by
 obtain ⟨A, n, c, h1, h2, h3⟩ := h
 exact ⟨A, n, c, Blk.below h1 hb h1.lt, h2.keep (Keeps.any hb), h3⟩
structure EgAt (w : World) (L : List Spans) (b : Nat) (xs : List Int) (wr : World) : Prop where
 ex : ∃ E : List Int, EdgeSt w.heap.size (w.heap.size + 1) E wr ∧ E.Pairwise (· < ·) ∧ E ≠ [] ∧ E.length ≤ b ∧ edgesAll L = xs.foldl putP E
 below : Below w.heap.size w wr
theorem EgAt.lt {w wr : World} {L : List Spans} {b : Nat} {xs : List Int} (h : EgAt w L b xs wr) : w.heap.size + 1 < wr.heap.size := by
 obtain ⟨⟨E, ⟨A, n, c, h1, _⟩, _⟩, _⟩ := h
 exact h1.lt
theorem EgAt.cell {w wr : World} {L : List Spans} {b : Nat} (h : EgAt w L b [] wr) : ∃ A n c, Blk wr (w.heap.size + 1) 61 #[.slice A n c] ∧ RdX wr (fun b => w.heap.size ≤ b) 1 A n (runeCells (edgesAll L)) := by
 obtain ⟨⟨E, ⟨A, n, c, h1, h2, _⟩, _, _, _, h5⟩, _⟩ := h
 rw [h5]
 exact ⟨A, n, c, h1, h2.keep (Keeps.refl (fun _ h => h.2))⟩
end Go.Proofs.YthnhbcohfoodlaaGreatDoor

namespace Go.Proofs.YthnhbcohfoodlaaGreatDoor
open Go.RowKit Go.Maps
def ClsM (w : World) (lo mb n : Nat) (m : ByteArray → Option Spans) : Prop :=
 ∃ D : DataW Value, w.ownsMap Tryz.prog 9 Raw mb n D ∧ IsMap D ∧ ∀ s : ByteArray, match m s with
  | some set => ∃ u, D.atKey (keyL s) nilH = .held u ∧ has D (keyL s) = true ∧ ∃ A k c, u = .slice A k c ∧ RdX w (fun b => b ≠ mb ∧ lo ≤ b) 2 A k (spanCells set) ∧ k ≤ c
  | none => D.atKey (keyL s) nilH = nilH ∧ has D (keyL s) = false
def putM (m : ByteArray → Option Spans) (k : ByteArray) (v : Spans) (s : ByteArray) : Option Spans := if s = k then some v else m s
theorem ClsM.keep {w w' : World} {lo mb n : Nat} {m : ByteArray → Option Spans} (hk : Keeps w (fun b => b ≠ mb ∧ lo ≤ b) w' (fun b => b ≠ mb ∧ lo ≤ b)) (hm : w'.heap[mb]? = w.heap[mb]?) (h : ClsM w lo mb n m) : ClsM w' lo mb n m := by
 obtain ⟨D, ⟨es, clock, h1, h2⟩, h3, h4⟩ := h
 refine ⟨D, ⟨es, clock, hm.trans h1, h2⟩, h3, fun s => ?_⟩
 have := h4 s
 cases hl : m s with
 | none => rw [hl] at this; exact this
 | some set =>
   rw [hl] at this
   obtain ⟨u, g1, g2, A, k, c, e, g3, g4⟩ := this
   exact ⟨u, g1, g2, A, k, c, e, g3.keep hk, g4⟩
theorem ClsM.lt {w : World} {lo mb n : Nat} {m : ByteArray → Option Spans} (h : ClsM w lo mb n m) : mb < w.heap.size := by
 obtain ⟨D, h1, _⟩ := h
 exact h1.lt
theorem ClsM.below {w w' : World} {lo mb n : Nat} {m : ByteArray → Option Spans} (h : ClsM w lo mb n m) (hb : Below w.heap.size w w') : ClsM w' lo mb n m := h.keep (Keeps.any hb) (hb.block mb h.lt)
theorem ClsM.made (w : World) (lo : Nat) : ClsM (w.alloc (.map #[] 0)) lo w.heap.size 0 (fun _ => none) :=
 ⟨.map [], World.ownsMap_made _ _ _ _, isMap_empty, fun s => ⟨by simp [DataW.atKey], by simp [has]⟩⟩
theorem ClsM.put {w : World} {lo mb n : Nat} {m : ByteArray → Option Spans} (h : ClsM w lo mb n m) (key : ByteArray) {set : Spans} {A : Option Addr} {k c : Nat} (hr : RdX w (fun b => b ≠ mb ∧ lo ≤ b) 2 A k (spanCells set)) (hc : k ≤ c) :
 ∃ D : DataW Value, w.ownsMap Tryz.prog 9 Raw mb n D ∧ ∀ w' : World, w'.ownsMap Tryz.prog 9 Raw mb (n + 1) (D.put (keyL key) (.held (.slice A k c))) → w.grownBy w' (some mb) → ClsM w' lo mb (n + 1) (putM m key set) ∧ But w mb w' := by
 obtain ⟨D, h1, h2, h3⟩ := h
 refine ⟨D, h1, fun w' hown hg => ?_⟩
 have hk : Keeps w (fun b => b ≠ mb ∧ lo ≤ b) w' (fun b => b ≠ mb ∧ lo ≤ b) := fun b hb hl => ⟨hg.block b hl (fun e => hb.1 (Option.some.inj e)), hb, Nat.lt_of_lt_of_le hl hg.size⟩
 refine ⟨⟨_, hown, h2.put _ _, fun s => ?_⟩, hg.size, hg.os, hg.tape, hg.output, fun b hb hne => hg.block b hb (fun e => hne (Option.some.inj e))⟩
 unfold putM
 by_cases hs : s = key
 ·subst hs
  rw [if_pos rfl]
  exact ⟨_, atKey_put_same h2 (keyL_is _) _ _, has_put_same h2 (keyL_is _) _, A, k, c, rfl, hr.keep hk, hc⟩
 ·rw [if_neg hs]
  have hne : keyL s ≠ keyL key := fun e => hs (keyL_inj e)
  have := h3 s
  cases hl : m s with
  | none =>
    rw [hl] at this
    dsimp only
    rw [atKey_put_other hne, has_put_other hne]
    exact this
  | some x =>
    rw [hl] at this
    obtain ⟨v, g1, g2, A', k', c', e, g3, g4⟩ := this
    exact ⟨v, by rw [atKey_put_other hne]; exact g1, by rw [has_put_other hne]; exact g2, A', k', c', e, g3.keep hk, g4⟩
def cn0 : ByteArray := ⟨#[100, 105, 103, 105, 116]⟩
def cs0 : Spans := [(48, 57)]
def cn1 : ByteArray := ⟨#[108, 111, 119, 101, 114]⟩
def cs1 : Spans := [(97, 122), (223, 246), (248, 255)]
def cn2 : ByteArray := ⟨#[117, 112, 112, 101, 114]⟩
def cs2 : Spans := [(65, 90), (192, 214), (216, 222)]
def cn3 : ByteArray := ⟨#[108, 101, 116, 116, 101, 114]⟩
def cs3 : Spans := [(65, 90), (97, 122), (192, 214), (216, 246), (248, 255)]
def cn4 : ByteArray := ⟨#[118, 111, 119, 101, 108]⟩
def cs4 : Spans := [(65, 65), (69, 69), (73, 73), (79, 79), (85, 85), (97, 97), (101, 101), (105, 105), (111, 111), (117, 117)]
def cn5 : ByteArray := ⟨#[103, 114, 101, 101, 107]⟩
def cs5 : Spans := [(880, 1023)]
def cn6 : ByteArray := ⟨#[99, 121, 114, 105, 108, 108, 105, 99]⟩
def cs6 : Spans := [(1024, 1279)]
def cn7 : ByteArray := ⟨#[115, 112, 97, 99, 101]⟩
def cs7 : Spans := [(9, 10), (32, 32)]
def cn8 : ByteArray := ⟨#[97, 110, 121]⟩
def cs8 : Spans := [(0, 1114111)]
def classT : ByteArray → Option Spans := (putM (putM (putM (putM (putM (putM (putM (putM (putM (fun _ => none) cn0 cs0) cn1 cs1) cn2 cs2) cn3 cs3) cn4 cs4) cn5 cs5) cn6 cs6) cn7 cs7) cn8 cs8)
theorem text_is {l m : List Int} {k : ByteArray} (hk : k = runesBytes m) (hm : asciiL m) : (runesBytes l = k) = (l = m) := by
 subst hk
 exact propext ⟨runesBytes_eq hm, fun h => by rw [h]⟩
theorem key_is {k : ByteArray} {m : List Int} (hm : asciiL m) (h : k.data.toList = rowB m) : k = runesBytes m := by
 rw [← runesBytes_ascii hm] at h
 exact ByteArray.ext (Array.ext' h)
theorem class_text (l : List Int) : classT (runesBytes l) = classOf l := by
 have e0 : (runesBytes l = cn0) = (l = [100, 105, 103, 105, 116]) := text_is (key_is (by unfold asciiL; decide) (by decide)) (by unfold asciiL; decide)
 have e1 : (runesBytes l = cn1) = (l = [108, 111, 119, 101, 114]) := text_is (key_is (by unfold asciiL; decide) (by decide)) (by unfold asciiL; decide)
 have e2 : (runesBytes l = cn2) = (l = [117, 112, 112, 101, 114]) := text_is (key_is (by unfold asciiL; decide) (by decide)) (by unfold asciiL; decide)
 have e3 : (runesBytes l = cn3) = (l = [108, 101, 116, 116, 101, 114]) := text_is (key_is (by unfold asciiL; decide) (by decide)) (by unfold asciiL; decide)
 have e4 : (runesBytes l = cn4) = (l = [118, 111, 119, 101, 108]) := text_is (key_is (by unfold asciiL; decide) (by decide)) (by unfold asciiL; decide)
 have e5 : (runesBytes l = cn5) = (l = [103, 114, 101, 101, 107]) := text_is (key_is (by unfold asciiL; decide) (by decide)) (by unfold asciiL; decide)
 have e6 : (runesBytes l = cn6) = (l = [99, 121, 114, 105, 108, 108, 105, 99]) := text_is (key_is (by unfold asciiL; decide) (by decide)) (by unfold asciiL; decide)
 have e7 : (runesBytes l = cn7) = (l = [115, 112, 97, 99, 101]) := text_is (key_is (by unfold asciiL; decide) (by decide)) (by unfold asciiL; decide)
 have e8 : (runesBytes l = cn8) = (l = [97, 110, 121]) := text_is (key_is (by unfold asciiL; decide) (by decide)) (by unfold asciiL; decide)
 unfold classT putM classOf
 simp only [e0, e1, e2, e3, e4, e5, e6, e7, e8]
 clear e0 e1 e2 e3 e4 e5 e6 e7 e8
 by_cases h0 : l = [100, 105, 103, 105, 116]
 ·subst h0; rfl
 by_cases h1 : l = [108, 111, 119, 101, 114]
 ·subst h1; rfl
 by_cases h2 : l = [117, 112, 112, 101, 114]
 ·subst h2; rfl
 by_cases h3 : l = [108, 101, 116, 116, 101, 114]
 ·subst h3; rfl
 by_cases h4 : l = [118, 111, 119, 101, 108]
 ·subst h4; rfl
 by_cases h5 : l = [103, 114, 101, 101, 107]
 ·subst h5; rfl
 by_cases h6 : l = [99, 121, 114, 105, 108, 108, 105, 99]
 ·subst h6; rfl
 by_cases h7 : l = [115, 112, 97, 99, 101]
 ·subst h7; rfl
 by_cases h8 : l = [97, 110, 121]
 ·subst h8; rfl
 simp only [h0, h1, h2, h3, h4, h5, h6, h7, h8, if_false]
def ClassPost (w : World) (s : ByteArray) (e : Ending) (w' : World) : Prop :=
 (match classT s with
 | some set => ∃ A n c, e = .returned (.tuple #[.slice A n c, .bool true]) ∧ RdX w' (fun b => w.heap.size ≤ b) 2 A n (spanCells set) ∧ n ≤ c
 | none => e = .returned (.tuple #[.slice none 0 0, .bool false])) ∧ Below w.heap.size w w'
theorem zeroSpans (w : World) : (zeroValue 22).run Tryz.prog w = .ok (.slice none 0 0) w := by kernel_rfl
theorem ClsM.ask {w : World} {lo mb n : Nat} {m : ByteArray → Option Spans} (h : ClsM w lo mb n m) (s : ByteArray) :
 ∃ D u q, w.ownsMap Tryz.prog 9 Raw mb n D ∧ D.atKey (keyL s) nilH = .held u ∧ has D (keyL s) = q ∧ (match m s with
  | some set => q = true ∧ ∃ A k c, u = .slice A k c ∧ RdX w (fun b => b ≠ mb ∧ lo ≤ b) 2 A k (spanCells set) ∧ k ≤ c
  | none => q = false ∧ u = .slice none 0 0) := by
 obtain ⟨D, h1, _, h3⟩ := h
 have := h3 s
 cases hl : m s with
 | none =>
   rw [hl] at this
   exact ⟨D, _, _, h1, this.1, this.2, rfl, rfl⟩
 | some x =>
   rw [hl] at this
   obtain ⟨u, g1, g2, g3⟩ := this
   exact ⟨D, u, true, h1, g1, g2, rfl, g3⟩
theorem class_call (W : World) (cs : Spans) (N : Nat) (hN : N = 2 * cs.length) (hn : N ≤ 1000) :
 Calls Tryz.prog 161 #[.slice (some ⟨W.heap.size, 0, none⟩) N N] (W.alloc (.cells (spanCells cs).toArray 21)) (SlicePost W cs 1000) := by
 have hb := (Below.refl W.heap.size W).alloc (Nat.le_refl _) (.cells (spanCells cs).toArray 21)
 refine (class_span W.heap.size 0 N cs N _ hN hn (by simp) (fun j u hu => ?_)).mono ?_
 ·rw [Nat.zero_add, (Blk.new W 21 (spanCells cs).toArray).cell]
  simpa using hu
 ·rintro e w1 ⟨A, k, c, rfl, h1, h2, h3, h4⟩
  exact ⟨A, k, c, rfl, h1.keep (Keeps.refl (fun b h => by simp at h; omega)), h2, h3, hb.trans (h4.mono (by simp))⟩
set_option maxHeartbeats 6400000 in
set_option maxRecDepth 100000 in
theorem syn_class (s : ByteArray) (w : World) (hs : s.size ≤ maxLen) :
 Calls Tryz.prog 129 #[.string s] w (ClassPost w s) := by
 have HS := Lib.hid hs
 have HM0 := Lib.hid (ClsM.made w w.heap.size)
 have HB0 := Lib.hid ((Below.refl w.heap.size w).alloc (Nat.le_refl _) (.map #[] 0))
 have hmm : ∀ W : World, (Instr.makeMap 158 none).run Tryz.prog W = .ok (.map (some W.heap.size)) (W.alloc (.map #[] 0)) := fun W => rfl
 clear hs
 have HC0 := Lib.hid (fun (W : World) => show Calls Tryz.prog 161 #[.slice (some ⟨W.heap.size, 0, none⟩) 2 2] (W.alloc (.cells #[.int .i32 48, .int .i32 57] 21)) (SlicePost W cs0 1000) from class_call W cs0 2 (by decide) (by decide))
 have HK0 := Lib.hid (show keyOf Tryz.prog 9 (.string ⟨#[100, 105, 103, 105, 116]⟩) = some (keyL cn0) from key_of (s := cn0) (by show (5 : Nat) ≤ maxLen; simp only [maxLen]; omega))
 have HC1 := Lib.hid (fun (W : World) => show Calls Tryz.prog 161 #[.slice (some ⟨W.heap.size, 0, none⟩) 6 6] (W.alloc (.cells #[.int .i32 97, .int .i32 122, .int .i32 223, .int .i32 246, .int .i32 248, .int .i32 255] 21)) (SlicePost W cs1 1000) from class_call W cs1 6 (by decide) (by decide))
 have HK1 := Lib.hid (show keyOf Tryz.prog 9 (.string ⟨#[108, 111, 119, 101, 114]⟩) = some (keyL cn1) from key_of (s := cn1) (by show (5 : Nat) ≤ maxLen; simp only [maxLen]; omega))
 have HC2 := Lib.hid (fun (W : World) => show Calls Tryz.prog 161 #[.slice (some ⟨W.heap.size, 0, none⟩) 6 6] (W.alloc (.cells #[.int .i32 65, .int .i32 90, .int .i32 192, .int .i32 214, .int .i32 216, .int .i32 222] 21)) (SlicePost W cs2 1000) from class_call W cs2 6 (by decide) (by decide))
 have HK2 := Lib.hid (show keyOf Tryz.prog 9 (.string ⟨#[117, 112, 112, 101, 114]⟩) = some (keyL cn2) from key_of (s := cn2) (by show (5 : Nat) ≤ maxLen; simp only [maxLen]; omega))
 have HC3 := Lib.hid (fun (W : World) => show Calls Tryz.prog 161 #[.slice (some ⟨W.heap.size, 0, none⟩) 10 10] (W.alloc (.cells #[.int .i32 65, .int .i32 90, .int .i32 97, .int .i32 122, .int .i32 192, .int .i32 214, .int .i32 216, .int .i32 246, .int .i32 248, .int .i32 255] 21)) (SlicePost W cs3 1000) from class_call W cs3 10 (by decide) (by decide))
 have HK3 := Lib.hid (show keyOf Tryz.prog 9 (.string ⟨#[108, 101, 116, 116, 101, 114]⟩) = some (keyL cn3) from key_of (s := cn3) (by show (6 : Nat) ≤ maxLen; simp only [maxLen]; omega))
 have HC4 := Lib.hid (fun (W : World) => show Calls Tryz.prog 161 #[.slice (some ⟨W.heap.size, 0, none⟩) 20 20] (W.alloc (.cells #[.int .i32 65, .int .i32 65, .int .i32 69, .int .i32 69, .int .i32 73, .int .i32 73, .int .i32 79, .int .i32 79, .int .i32 85, .int .i32 85, .int .i32 97, .int .i32 97, .int .i32 101, .int .i32 101, .int .i32 105, .int .i32 105, .int .i32 111, .int .i32 111, .int .i32 117, .int .i32 117] 21)) (SlicePost W cs4 1000) from class_call W cs4 20 (by decide) (by decide))
 have HK4 := Lib.hid (show keyOf Tryz.prog 9 (.string ⟨#[118, 111, 119, 101, 108]⟩) = some (keyL cn4) from key_of (s := cn4) (by show (5 : Nat) ≤ maxLen; simp only [maxLen]; omega))
 have HC5 := Lib.hid (fun (W : World) => show Calls Tryz.prog 161 #[.slice (some ⟨W.heap.size, 0, none⟩) 2 2] (W.alloc (.cells #[.int .i32 880, .int .i32 1023] 21)) (SlicePost W cs5 1000) from class_call W cs5 2 (by decide) (by decide))
 have HK5 := Lib.hid (show keyOf Tryz.prog 9 (.string ⟨#[103, 114, 101, 101, 107]⟩) = some (keyL cn5) from key_of (s := cn5) (by show (5 : Nat) ≤ maxLen; simp only [maxLen]; omega))
 have HC6 := Lib.hid (fun (W : World) => show Calls Tryz.prog 161 #[.slice (some ⟨W.heap.size, 0, none⟩) 2 2] (W.alloc (.cells #[.int .i32 1024, .int .i32 1279] 21)) (SlicePost W cs6 1000) from class_call W cs6 2 (by decide) (by decide))
 have HK6 := Lib.hid (show keyOf Tryz.prog 9 (.string ⟨#[99, 121, 114, 105, 108, 108, 105, 99]⟩) = some (keyL cn6) from key_of (s := cn6) (by show (8 : Nat) ≤ maxLen; simp only [maxLen]; omega))
 have HC7 := Lib.hid (fun (W : World) => show Calls Tryz.prog 161 #[.slice (some ⟨W.heap.size, 0, none⟩) 4 4] (W.alloc (.cells #[.int .i32 9, .int .i32 10, .int .i32 32, .int .i32 32] 21)) (SlicePost W cs7 1000) from class_call W cs7 4 (by decide) (by decide))
 have HK7 := Lib.hid (show keyOf Tryz.prog 9 (.string ⟨#[115, 112, 97, 99, 101]⟩) = some (keyL cn7) from key_of (s := cn7) (by show (5 : Nat) ≤ maxLen; simp only [maxLen]; omega))
 have HC8 := Lib.hid (fun (W : World) => show Calls Tryz.prog 161 #[.slice (some ⟨W.heap.size, 0, none⟩) 2 2] (W.alloc (.cells #[.int .i32 0, .int .i32 1114111] 21)) (SlicePost W cs8 1000) from class_call W cs8 2 (by decide) (by decide))
 have HK8 := Lib.hid (show keyOf Tryz.prog 9 (.string ⟨#[97, 110, 121]⟩) = some (keyL cn8) from key_of (s := cn8) (by show (3 : Nat) ≤ maxLen; simp only [maxLen]; omega))
 have HC00 := Lib.hid (show Calls Tryz.prog 161 #[.slice (some ⟨w.heap.size + 1, 0, none⟩) 2 2] ((w.alloc (.map #[] 0)).alloc (.cells #[.int .i32 48, .int .i32 57] 21)) (SlicePost (w.alloc (.map #[] 0)) cs0 1000) by have := HC0.out (w.alloc (.map #[] 0)); simpa using this)
 have HL0 := Lib.hid (show w.heap.size < (w.alloc (.map #[] 0)).heap.size by simp)
 go_enter Tryz.func129, Tryz.ntmps129
 go_wp2_with fail
 refine HC00.out.mono ?_
 rintro e w0 ⟨A0, k0, c0, rfl, hr, hk, hc, hb⟩
 have HB0b := Lib.hid (HB0.out.trans (hb.mono (Nat.le_of_lt HL0.out)))
 obtain ⟨D0, hown, hput⟩ := (HM0.out.below hb).put cn0 (set := cs0) (hr.keep (Keeps.refl (X' := fun b => b ≠ w.heap.size ∧ w.heap.size ≤ b) (fun b h => by have := HL0.out; omega))) hc
 have HL0b := Lib.hid (show w.heap.size < w0.heap.size from Nat.lt_of_lt_of_le HL0.out hb.size)
 have HO0 := Lib.hid hown
 have HP0 := Lib.hid hput
 clear hr hk hc hb hown hput
 go_wp2_with (first | (refine wpList_insert_own _ rfl (.tmp 8) _ _ 158 rfl 9 22 key_law Tryz.underlying158 Raw w.heap.size 0 _ rfl HO0.out (by unfold maxLen; omega) _ _ _ rfl rfl HK0.out (.held (.slice A0 k0 c0)) [] rfl ?_; intro v0 hown hgrow; have HM1 := Lib.hid (HP0.out v0 hown hgrow).1; have HB1 := Lib.hid (HB0b.out.trans ((HP0.out v0 hown hgrow).2.to (Nat.le_of_lt HL0b.out) (Nat.le_refl _))); have HL1 := Lib.hid (show w.heap.size < v0.heap.size from Nat.lt_of_lt_of_le HL0b.out hgrow.size); clear hown hgrow) | fail)
 refine (HC1.out _).mono ?_
 rintro e w1 ⟨A1, k1, c1, rfl, hr, hk, hc, hb⟩
 have HB1b := Lib.hid (HB1.out.trans (hb.mono (Nat.le_of_lt HL1.out)))
 obtain ⟨D1, hown, hput⟩ := (HM1.out.below hb).put cn1 (set := cs1) (hr.keep (Keeps.refl (X' := fun b => b ≠ w.heap.size ∧ w.heap.size ≤ b) (fun b h => by have := HL1.out; omega))) hc
 have HL1b := Lib.hid (show w.heap.size < w1.heap.size from Nat.lt_of_lt_of_le HL1.out hb.size)
 have HO1 := Lib.hid hown
 have HP1 := Lib.hid hput
 clear hr hk hc hb hown hput
 go_wp2_with (first | (refine wpList_insert_own _ rfl (.tmp 8) _ _ 158 rfl 9 22 key_law Tryz.underlying158 Raw w.heap.size 1 _ rfl HO1.out (by unfold maxLen; omega) _ _ _ rfl rfl HK1.out (.held (.slice A1 k1 c1)) [] rfl ?_; intro v1 hown hgrow; have HM2 := Lib.hid (HP1.out v1 hown hgrow).1; have HB2 := Lib.hid (HB1b.out.trans ((HP1.out v1 hown hgrow).2.to (Nat.le_of_lt HL1b.out) (Nat.le_refl _))); have HL2 := Lib.hid (show w.heap.size < v1.heap.size from Nat.lt_of_lt_of_le HL1b.out hgrow.size); clear hown hgrow) | fail)
 refine (HC2.out _).mono ?_
 rintro e w2 ⟨A2, k2, c2, rfl, hr, hk, hc, hb⟩
 have HB2b := Lib.hid (HB2.out.trans (hb.mono (Nat.le_of_lt HL2.out)))
 obtain ⟨D2, hown, hput⟩ := (HM2.out.below hb).put cn2 (set := cs2) (hr.keep (Keeps.refl (X' := fun b => b ≠ w.heap.size ∧ w.heap.size ≤ b) (fun b h => by have := HL2.out; omega))) hc
 have HL2b := Lib.hid (show w.heap.size < w2.heap.size from Nat.lt_of_lt_of_le HL2.out hb.size)
 have HO2 := Lib.hid hown
 have HP2 := Lib.hid hput
 clear hr hk hc hb hown hput
 go_wp2_with (first | (refine wpList_insert_own _ rfl (.tmp 8) _ _ 158 rfl 9 22 key_law Tryz.underlying158 Raw w.heap.size 2 _ rfl HO2.out (by unfold maxLen; omega) _ _ _ rfl rfl HK2.out (.held (.slice A2 k2 c2)) [] rfl ?_; intro v2 hown hgrow; have HM3 := Lib.hid (HP2.out v2 hown hgrow).1; have HB3 := Lib.hid (HB2b.out.trans ((HP2.out v2 hown hgrow).2.to (Nat.le_of_lt HL2b.out) (Nat.le_refl _))); have HL3 := Lib.hid (show w.heap.size < v2.heap.size from Nat.lt_of_lt_of_le HL2b.out hgrow.size); clear hown hgrow) | fail)
 refine (HC3.out _).mono ?_
 rintro e w3 ⟨A3, k3, c3, rfl, hr, hk, hc, hb⟩
 have HB3b := Lib.hid (HB3.out.trans (hb.mono (Nat.le_of_lt HL3.out)))
 obtain ⟨D3, hown, hput⟩ := (HM3.out.below hb).put cn3 (set := cs3) (hr.keep (Keeps.refl (X' := fun b => b ≠ w.heap.size ∧ w.heap.size ≤ b) (fun b h => by have := HL3.out; omega))) hc
 have HL3b := Lib.hid (show w.heap.size < w3.heap.size from Nat.lt_of_lt_of_le HL3.out hb.size)
 have HO3 := Lib.hid hown
 have HP3 := Lib.hid hput
 clear hr hk hc hb hown hput
 go_wp2_with (first | (refine wpList_insert_own _ rfl (.tmp 8) _ _ 158 rfl 9 22 key_law Tryz.underlying158 Raw w.heap.size 3 _ rfl HO3.out (by unfold maxLen; omega) _ _ _ rfl rfl HK3.out (.held (.slice A3 k3 c3)) [] rfl ?_; intro v3 hown hgrow; have HM4 := Lib.hid (HP3.out v3 hown hgrow).1; have HB4 := Lib.hid (HB3b.out.trans ((HP3.out v3 hown hgrow).2.to (Nat.le_of_lt HL3b.out) (Nat.le_refl _))); have HL4 := Lib.hid (show w.heap.size < v3.heap.size from Nat.lt_of_lt_of_le HL3b.out hgrow.size); clear hown hgrow) | fail)
 refine (HC4.out _).mono ?_
 rintro e w4 ⟨A4, k4, c4, rfl, hr, hk, hc, hb⟩
 have HB4b := Lib.hid (HB4.out.trans (hb.mono (Nat.le_of_lt HL4.out)))
 obtain ⟨D4, hown, hput⟩ := (HM4.out.below hb).put cn4 (set := cs4) (hr.keep (Keeps.refl (X' := fun b => b ≠ w.heap.size ∧ w.heap.size ≤ b) (fun b h => by have := HL4.out; omega))) hc
 have HL4b := Lib.hid (show w.heap.size < w4.heap.size from Nat.lt_of_lt_of_le HL4.out hb.size)
 have HO4 := Lib.hid hown
 have HP4 := Lib.hid hput
 clear hr hk hc hb hown hput
 go_wp2_with (first | (refine wpList_insert_own _ rfl (.tmp 8) _ _ 158 rfl 9 22 key_law Tryz.underlying158 Raw w.heap.size 4 _ rfl HO4.out (by unfold maxLen; omega) _ _ _ rfl rfl HK4.out (.held (.slice A4 k4 c4)) [] rfl ?_; intro v4 hown hgrow; have HM5 := Lib.hid (HP4.out v4 hown hgrow).1; have HB5 := Lib.hid (HB4b.out.trans ((HP4.out v4 hown hgrow).2.to (Nat.le_of_lt HL4b.out) (Nat.le_refl _))); have HL5 := Lib.hid (show w.heap.size < v4.heap.size from Nat.lt_of_lt_of_le HL4b.out hgrow.size); clear hown hgrow) | fail)
 refine (HC5.out _).mono ?_
 rintro e w5 ⟨A5, k5, c5, rfl, hr, hk, hc, hb⟩
 have HB5b := Lib.hid (HB5.out.trans (hb.mono (Nat.le_of_lt HL5.out)))
 obtain ⟨D5, hown, hput⟩ := (HM5.out.below hb).put cn5 (set := cs5) (hr.keep (Keeps.refl (X' := fun b => b ≠ w.heap.size ∧ w.heap.size ≤ b) (fun b h => by have := HL5.out; omega))) hc
 have HL5b := Lib.hid (show w.heap.size < w5.heap.size from Nat.lt_of_lt_of_le HL5.out hb.size)
 have HO5 := Lib.hid hown
 have HP5 := Lib.hid hput
 clear hr hk hc hb hown hput
 go_wp2_with (first | (refine wpList_insert_own _ rfl (.tmp 8) _ _ 158 rfl 9 22 key_law Tryz.underlying158 Raw w.heap.size 5 _ rfl HO5.out (by unfold maxLen; omega) _ _ _ rfl rfl HK5.out (.held (.slice A5 k5 c5)) [] rfl ?_; intro v5 hown hgrow; have HM6 := Lib.hid (HP5.out v5 hown hgrow).1; have HB6 := Lib.hid (HB5b.out.trans ((HP5.out v5 hown hgrow).2.to (Nat.le_of_lt HL5b.out) (Nat.le_refl _))); have HL6 := Lib.hid (show w.heap.size < v5.heap.size from Nat.lt_of_lt_of_le HL5b.out hgrow.size); clear hown hgrow) | fail)
 refine (HC6.out _).mono ?_
 rintro e w6 ⟨A6, k6, c6, rfl, hr, hk, hc, hb⟩
 have HB6b := Lib.hid (HB6.out.trans (hb.mono (Nat.le_of_lt HL6.out)))
 obtain ⟨D6, hown, hput⟩ := (HM6.out.below hb).put cn6 (set := cs6) (hr.keep (Keeps.refl (X' := fun b => b ≠ w.heap.size ∧ w.heap.size ≤ b) (fun b h => by have := HL6.out; omega))) hc
 have HL6b := Lib.hid (show w.heap.size < w6.heap.size from Nat.lt_of_lt_of_le HL6.out hb.size)
 have HO6 := Lib.hid hown
 have HP6 := Lib.hid hput
 clear hr hk hc hb hown hput
 go_wp2_with (first | (refine wpList_insert_own _ rfl (.tmp 8) _ _ 158 rfl 9 22 key_law Tryz.underlying158 Raw w.heap.size 6 _ rfl HO6.out (by unfold maxLen; omega) _ _ _ rfl rfl HK6.out (.held (.slice A6 k6 c6)) [] rfl ?_; intro v6 hown hgrow; have HM7 := Lib.hid (HP6.out v6 hown hgrow).1; have HB7 := Lib.hid (HB6b.out.trans ((HP6.out v6 hown hgrow).2.to (Nat.le_of_lt HL6b.out) (Nat.le_refl _))); have HL7 := Lib.hid (show w.heap.size < v6.heap.size from Nat.lt_of_lt_of_le HL6b.out hgrow.size); clear hown hgrow) | fail)
 refine (HC7.out _).mono ?_
 rintro e w7 ⟨A7, k7, c7, rfl, hr, hk, hc, hb⟩
 have HB7b := Lib.hid (HB7.out.trans (hb.mono (Nat.le_of_lt HL7.out)))
 obtain ⟨D7, hown, hput⟩ := (HM7.out.below hb).put cn7 (set := cs7) (hr.keep (Keeps.refl (X' := fun b => b ≠ w.heap.size ∧ w.heap.size ≤ b) (fun b h => by have := HL7.out; omega))) hc
 have HL7b := Lib.hid (show w.heap.size < w7.heap.size from Nat.lt_of_lt_of_le HL7.out hb.size)
 have HO7 := Lib.hid hown
 have HP7 := Lib.hid hput
 clear hr hk hc hb hown hput
 go_wp2_with (first | (refine wpList_insert_own _ rfl (.tmp 8) _ _ 158 rfl 9 22 key_law Tryz.underlying158 Raw w.heap.size 7 _ rfl HO7.out (by unfold maxLen; omega) _ _ _ rfl rfl HK7.out (.held (.slice A7 k7 c7)) [] rfl ?_; intro v7 hown hgrow; have HM8 := Lib.hid (HP7.out v7 hown hgrow).1; have HB8 := Lib.hid (HB7b.out.trans ((HP7.out v7 hown hgrow).2.to (Nat.le_of_lt HL7b.out) (Nat.le_refl _))); have HL8 := Lib.hid (show w.heap.size < v7.heap.size from Nat.lt_of_lt_of_le HL7b.out hgrow.size); clear hown hgrow) | fail)
 refine (HC8.out _).mono ?_
 rintro e w8 ⟨A8, k8, c8, rfl, hr, hk, hc, hb⟩
 have HB8b := Lib.hid (HB8.out.trans (hb.mono (Nat.le_of_lt HL8.out)))
 obtain ⟨D8, hown, hput⟩ := (HM8.out.below hb).put cn8 (set := cs8) (hr.keep (Keeps.refl (X' := fun b => b ≠ w.heap.size ∧ w.heap.size ≤ b) (fun b h => by have := HL8.out; omega))) hc
 have HL8b := Lib.hid (show w.heap.size < w8.heap.size from Nat.lt_of_lt_of_le HL8.out hb.size)
 have HO8 := Lib.hid hown
 have HP8 := Lib.hid hput
 clear hr hk hc hb hown hput
 go_wp2_with (first | (refine wpList_insert_own _ rfl (.tmp 8) _ _ 158 rfl 9 22 key_law Tryz.underlying158 Raw w.heap.size 8 _ rfl HO8.out (by unfold maxLen; omega) _ _ _ rfl rfl HK8.out (.held (.slice A8 k8 c8)) [] rfl ?_; intro v8 hown hgrow; have HM9 := Lib.hid (HP8.out v8 hown hgrow).1; have HB9 := Lib.hid (HB8b.out.trans ((HP8.out v8 hown hgrow).2.to (Nat.le_of_lt HL8b.out) (Nat.le_refl _))); have HL9 := Lib.hid (show w.heap.size < v8.heap.size from Nat.lt_of_lt_of_le HL8b.out hgrow.size); clear hown hgrow; obtain ⟨D9, u9, q9, hown, hat, hhas, hpost⟩ := HM9.out.ask s; have HO9 := Lib.hid hown; have HA9 := Lib.hid hat; have HH9 := Lib.hid hhas; have HP9 := Lib.hid hpost; clear hown hat hhas hpost) | (at_lookup; refine wpList_look_ok rfl (.tmp 36) (.tmp 37) 158 22 rfl Tryz.underlying158 (z := .slice none 0 0) (zeroSpans _) w.heap.size 9 D9 rfl HO9.out s rfl HS.out u9 q9 HA9.out HH9.out ?_) | fail)
 go_ret2
 have hp := HP9.out
 unfold ClassPost
 change (match classT s with | some set => _ | none => _) at hp
 cases hT : classT s with
 | none =>
   rw [hT] at hp
   obtain ⟨rfl, rfl⟩ := hp
   exact ⟨rfl, HB9.out⟩
 | some set =>
   rw [hT] at hp
   obtain ⟨rfl, A, k, c, rfl, h1, h2⟩ := hp
   exact ⟨⟨A, k, c, rfl, h1.keep (Keeps.refl (fun b h => h.2)), h2⟩, HB9.out⟩
end Go.Proofs.YthnhbcohfoodlaaGreatDoor

namespace Go.Proofs.YthnhbcohfoodlaaGreatDoor
open Go.RowKit
theorem row_blk {w : World} {g : Nat} {t : TypeId} {c c' : Array Value} (h : Blk w g t c) : Blk (w.setRow g c') g t c' := setRow_heap w g c c' t (0, 0) h
theorem row_but (w : World) (g : Nat) (c : Array Value) : But w g (w.setRow g c) := ⟨by simp, rfl, rfl, rfl, fun k _ hne => setRow_other w g k c hne⟩
section
variable {ops : Array Oper} {rest : List Oper} {o : Oper} {a : Act} {w : World} {Q : Exit → Act → World → Prop} {ty t : TypeId} {x y : Operand} {g : Nat}
theorem wpList_load_row {cs : Array Value} (hgd : o.guard = none) (ho : o.op = .load ty x) (hu : ∃ fs, Tryz.prog.underlying ty = some (.struct fs)) (hi : (Tryz.prog.info? ty).map (·.size) = some cs.size)
 (hx : a.eval x = .pointer (some ⟨g, 0, none⟩)) (hb : Blk w g t cs) (h : wpList Tryz.prog ops Q rest (a.put o.dst (.agg cs)) w) : wpList Tryz.prog ops Q (o :: rest) a w := by
 obtain ⟨fs, hu⟩ := hu
 refine wpList_plain hgd fun K hK => ?_
 have hr : (execOp a.eval o).run Tryz.prog w = .ok (.value (.agg cs)) w := by
  unfold execOp
  rw [ho]
  simp only [hx, Instr.loadAt, Instr.sureAddr, Sem.run_bind, Sem.run_pure, Result.andThen, run_loadVar_row w g t ty cs (0, 0) (.struct fs) hb hu rfl hi]
 unfold Oper.wp
 rw [hr]
 exact hK _ _ h
theorem wpList_store_row {c vs : Array Value} (hgd : o.guard = none) (ho : o.op = .store ty x y) (hi : (Tryz.prog.info? ty).map (·.size) = some vs.size) (hs : c.size = vs.size) (h1 : vs.all (·.oneCell') = true)
 (hx : a.eval x = .pointer (some ⟨g, 0, none⟩)) (hy : a.eval y = .agg vs) (hb : Blk w g t c) (h : wpList Tryz.prog ops Q rest (a.put o.dst undef) (w.setRow g vs)) : wpList Tryz.prog ops Q (o :: rest) a w := by
 refine wpList_plain hgd fun K hK => ?_
 have hr : (execOp a.eval o).run Tryz.prog w = .ok .skip (w.setRow g vs) := by
  unfold execOp
  rw [ho]
  simp only [hx, hy, Instr.storeAt, Instr.sureAddr, Sem.run_bind, Sem.run_pure, Result.andThen, run_storeVar_row w g t ty c vs hb hi hs h1]
 unfold Oper.wp
 rw [hr]
 exact hK _ _ h
theorem step_store_row {K : Act → World → Prop} {E : Prop} {c vs : Array Value} (hgd : o.guard = none) (ho : o.op = .store ty x y) (hi : (Tryz.prog.info? ty).map (·.size) = some vs.size) (hs : c.size = vs.size) (h1 : vs.all (·.oneCell') = true)
 (hx : a.eval x = .pointer (some ⟨g, 0, none⟩)) (hy : a.eval y = .agg vs) (hb : Blk w g t c) (h : K (a.put o.dst undef) (w.setRow g vs)) : if Region.wanted o (yielded ops a.tmps) = true then Oper.wp Tryz.prog o a w K Q else E := by
 have hw : Region.wanted o (yielded ops a.tmps) = true := by simp [Region.wanted, hgd]
 rw [if_pos hw]
 have hr : (execOp a.eval o).run Tryz.prog w = .ok .skip (w.setRow g vs) := by
  unfold execOp
  rw [ho]
  simp only [hx, hy, Instr.storeAt, Instr.sureAddr, Sem.run_bind, Sem.run_pure, Result.andThen, run_storeVar_row w g t ty c vs hb hi hs h1]
 unfold Oper.wp
 rw [hr]
 exact h
theorem results_row {fn : Func} {p : Tmp} {tmps : Array Value} {cs : Array Value} (h : fn.results = #[.cell p ty]) (hp : tmps.getD p undef = .pointer (some ⟨g, 0, none⟩)) (hu : ∃ fs, Tryz.prog.underlying ty = some (.struct fs)) (hi : (Tryz.prog.info? ty).map (·.size) = some cs.size) (hb : Blk w g t cs) :
 (results fn tmps).run Tryz.prog w = .ok (.agg cs) w := by
 obtain ⟨fs, hu⟩ := hu
 have hl := run_loadVar_row w g t ty cs (0, 0) (.struct fs) hb hu rfl hi
 have hp2 : tmps[p]?.getD undef = .pointer (some ⟨g, 0, none⟩) := by simpa using hp
 simp only [results, h]
 simp [hp2, asAddr, hl]
end
end Go.Proofs.YthnhbcohfoodlaaGreatDoor
