/- RefClass + WholeBox -/
import Derived.Test.YthnhbcohfoodlaaGreatDoorZq24
import Derived.Test.YthnhbcohfoodlaaGreatDoorZq19
import Derived.Test.YthnhbcohfoodlaaGreatDoorZq2
import Derived.WalkMore
import Derived.Test.YthnhbcohfoodlaaGreatDoorZq1
import Derived.Test.YthnhbcohfoodlaaGreatDoorZq22
import Derived.Deep.WholeRow
set_option maxHeartbeats 6400000
set_option maxRecDepth 100000
namespace Go.Proofs.YthnhbcohfoodlaaGreatDoor
open Go.RowKit
def fG (s : ag) : List Int := s.flatMap fun k => [k.1, k.2]
theorem mV (s : ag) : (fG s).length = 2 * s.length := by
 induction s with
 | nil => rfl
 | cons x s ih => show ([x.1, x.2] ++ fG s).length = _; rw [List.length_append, ih]; simp; omega
theorem Cn : ∀ (s : ag) (k : Nat) (x y : Int), s[k]? = some (x, y) → (fG s)[2 * k]? = some x ∧ (fG s)[2 * k + 1]? = some y := by
 intro s;induction s with
 | nil => intro k x y h; simp at h
 | cons z s ih =>
  intro k x y h;show ([z.1, z.2] ++ fG s)[2 * k]? = _ ∧ ([z.1, z.2] ++ fG s)[2 * k + 1]? = _;cases k with
  | zero =>
   rw [List.getElem?_cons_zero] at h;obtain rfl := Option.some.inj h;exact ⟨rfl, rfl⟩
  | succ k =>
   obtain ⟨h1, h2⟩ := ih k x y (by simpa only [List.getElem?_cons_succ] using h);refine ⟨?_, ?_⟩
   ·rw [List.getElem?_append_right (by simp; omega), show 2 * (k + 1) - [z.1, z.2].length = 2 * k by simp; omega];exact h1
   rw [List.getElem?_append_right (by simp; omega), show 2 * (k + 1) + 1 - [z.1, z.2].length = 2 * k + 1 by simp; omega];exact h2
theorem iV {s k : ByteArray} (h : s ≠ k) : (s.toList == k.data.toList) = false := by
 rw [beq_eq_false_iff_ne, ByteArray.toList_eq];exact fun e => h (ByteArray.ext (Array.ext' e))
theorem z6 {w : World} {base k p : Nat} {e : TypeId} {sz n : Nat} {v v' : Value} {w' : World} {xs : List Value} {s : ByteArray} (hit : w.heap[k]? = some (.stringIter s p)) (hk : k < base)
    (ho : ∃ m ys, w.ownsRow base e sz v m ys) (h : b9 base e sz v w n xs v' w') : w'.heap[k]? = some (.stringIter s p) := by
 obtain ⟨m, ys, ho⟩ := ho;rw [h.2.1.block k (Array.getElem?_eq_some_iff.1 hit).1 (fun e => by have := (World.ownsRow.lt ho k e.symm).1; omega)];exact hit
def jC (w : World) (s : ByteArray) (v : Value) (wx : World) : Prop :=
  ∃ A n c S, v = .slice A n c ∧ ((iH s = some S ∧ S ≠ []) ∨ (iH s = none ∧ S = [])) ∧ S.length ≤ 10 ∧ Rd wx wx.heap.size 1 A n (ax (fG S)) ∧ Below w.heap.size w wx
theorem jC.new (w : World) (s : ByteArray) (S : ag) (n : Nat) (hS : iH s = some S) (h0 : S ≠ []) (h10 : S.length ≤ 10) (cs : Array Value) (hcs : cs.toList = ax (fG S)) (hn : n = 2 * S.length) :
    jC w s (.slice (some ⟨w.heap.size, 0, none⟩) n n) (w.alloc (.cells cs 21)) := by
 refine ⟨_, _, _, S, rfl, .inl ⟨hS, h0⟩, h10, ?_, (Below.refl _ _).alloc (Nat.le_refl _) _⟩;obtain rfl : cs = (ax (fG S)).toArray := (by rw [← hcs]);exact Rd.more (Rd.new w 21 1 n (ax (fG S)) (by rw [bt, mV]; omega)) (show w.heap.size + 1 ≤ (w.alloc (.cells (ax (fG S)).toArray 21)).heap.size by simp)
theorem jC.none (w : World) (s : ByteArray) (hS : iH s = none) : jC w s (.slice none 0 0) w :=
  ⟨_, _, _, [], rfl, .inr ⟨hS, rfl⟩, by simp, Rd.nil, Below.refl _ _⟩
def qp : ByteArray := ⟨#[65, 69, 73, 79, 85, 97, 101, 105, 111, 117]⟩
def CE : List Int := [65, 69, 73, 79, 85, 97, 101, 105, 111, 117]
theorem zB : ∀ p : Nat, p < 10 → ((Utf8.decode qp p).1 : Int) = CE.getD p 0 ∧ (Utf8.decode qp p).2 = 1 := by decide +kernel
def LW (w : World) (v : Value) (wr : World) : Prop :=
  ∃ p : Nat, p ≤ 10 ∧ wr.heap[w.heap.size]? = some (.stringIter qp p) ∧ wr.ownsRow (w.heap.size + 1) 21 1 v (2 * p) (ax (fG (CT.take p))) ∧ Below w.heap.size w wr
theorem DM : ∀ p : Nat, p < 10 → ax (fG (CT.take (p + 1))) = ax (fG (CT.take p)) ++ [.int .i32 (CE.getD p 0), .int .i32 (CE.getD p 0)] := by
 intro p hp;have h : fG (CT.take (p + 1)) = fG (CT.take p) ++ [CE.getD p 0, CE.getD p 0] := by
  revert p;decide +kernel
 rw [h];simp [ax]
def qI (w : World) (s : ByteArray) (e : Ending) (w' : World) : Prop :=
  (match iH s with
  | some set => ∃ a n c, e = .returned (.slice (some a) n c) ∧ di w' (fun b => w.heap.size ≤ b) 2 (some a) n (ak set) ∧ n ≤ c
  | none => e = .returned (.slice none 0 0)) ∧ Below w.heap.size w w'
theorem BP (s : ByteArray) (w : World) (hs : s.size ≤ maxLen) :
    Calls Tryz.prog 84 #[.string s] w (qI w s) := by
 obtain ⟨i0, hi, ql, hy1, kM⟩ := info_parts Tryz.info21;obtain ⟨j0, hj, y0, y1, y2⟩ := info_parts gC;go_enter Tryz.func84, Tryz.ntmps84;go_upto_block 0 with fail;go_cut [3] (jC w s);case first =>
  by_cases h0 : s = GF
  ·subst h0;have HR := Lib.hid (jC.new w GF cs0 2 (by decide +kernel) (by decide) (by decide) #[.int .i32 48, .int .i32 57] rfl rfl);unfold GF;go_wp2_with fail;go_meet;exact HR.out
  by_cases h1 : s = Hx
  ·subst h1;have HR := Lib.hid (jC.new w Hx JT 6 (by decide +kernel) (by decide) (by decide) #[.int .i32 97, .int .i32 122, .int .i32 223, .int .i32 246, .int .i32 248, .int .i32 255] rfl rfl);unfold Hx;go_wp2_with fail;go_meet;exact HR.out
  by_cases h2 : s = GL
  ·subst h2;have HR := Lib.hid (jC.new w GL Je 6 (by decide +kernel) (by decide) (by decide) #[.int .i32 65, .int .i32 90, .int .i32 192, .int .i32 214, .int .i32 216, .int .i32 222] rfl rfl);unfold GL;go_wp2_with fail;go_meet;exact HR.out
  by_cases h3 : s = Ib
  ·subst h3;have HR := Lib.hid (jC.new w Ib L7 10 (by decide +kernel) (by decide) (by decide) #[.int .i32 65, .int .i32 90, .int .i32 97, .int .i32 122, .int .i32 192, .int .i32 214, .int .i32 216, .int .i32 246, .int .i32 248, .int .i32 255] rfl rfl);unfold Ib;go_wp2_with fail;go_meet;exact HR.out
  by_cases h4 : s = G9
  ·subst h4;have HT := Lib.hid (show iH G9 = some CT by decide +kernel);unfold G9;go_wp2_with fail;go_loopw [3] (LW w) (fun _ wr => 10 - wr.iterPos w.heap.size);(case atStart => exact ⟨0, Nat.zero_le _, World.iter_heap _ _ _, World.ownsRow_nil _ _ _ _, (Below.refl _ _).alloc (Nat.le_refl _) _⟩);obtain ⟨p, hp, hit, hown, mw⟩ := hrel;have hz := mw.size;have jl := iterPos_of hit;by_cases hlt : p < 10
   ·have hnext := fun ty => Lib.run_next_any_at (P := Tryz.prog) wr w.heap.size qp p ty hit hlt;obtain ⟨yS, nF⟩ := zB p hlt;have nJ := Lib.iterAt_heap wr w.heap.size qp p (p + (Utf8.decode qp p).2) hit;have aT := Lib.below_iterAt mw (Nat.le_refl _) qp (p + (Utf8.decode qp p).2);have p4 := ownsRow_iterAt hown (Nat.lt_succ_self _) qp (p + (Utf8.decode qp p).2);rw [nF] at nJ aT hnext p4;rw [yS] at hnext;have Mj := DM p hlt;generalize wr.iterAt w.heap.size qp (p + 1) = W1 at *;generalize CE.getD p 0 = x at *;have kR := aT.size;obtain ⟨A3, c3, rfl, eC⟩ := aP p4;have kV := Lib.hid nJ;have wm := Lib.hid jl;have HS := Lib.hid Mj;have HN := Lib.hid (Rd.new W1 21 1 2 [.int .i32 x, .int .i32 x] rfl);have HO := Lib.hid (World.ownsRow.alloc p4 (.cells #[.int .i32 x, .int .i32 x] 21));have b8 := Lib.hid (aT.alloc kR (.cells #[.int .i32 x, .int .i32 x] 21));have eG : w.heap.size + 1 ≤ (W1.alloc (.cells #[.int .i32 x, .int .i32 x] 21)).heap.size := (by simp; omega);clear hit nJ jl hown p4 Mj yS nF;go_wp2_with (at_builtin; refine av _ rfl (.tmp 27) (.tmp 30) 61 rfl (w.heap.size + 1) 21 i0 _ 1 4 Tryz.underlying61 hi ql hy1 kM rfl (by decide) _ _ _ rfl HO.out (W1.heap.size + 1) (some ⟨W1.heap.size, 0, none⟩) 2 2 [.int .i32 x, .int .i32 x] rfl HN.out ?s1 (by simp only [maxLen]; omega) (by omega) eG ?_);(case s1 => intro u hu; simp at hu; rw [hu]; rfl);intro v' w2 an;have Gm := Lib.hid (z6 ((Below.heap_alloc W1 (.cells #[.int .i32 x, .int .i32 x] 21) w.heap.size (Array.getElem?_eq_some_iff.1 kV.out).1).trans kV.out) (Nat.lt_succ_self _) ⟨_, _, HO.out⟩ an);have nB := Lib.hid (show w2.ownsRow (w.heap.size + 1) 21 1 v' (2 * (p + 1)) (ax (fG (CT.take (p + 1)))) by have := an.own; rw [HS.out]; exact this);have cS := Lib.hid (b8.out.trans ((an.below eG HO.out).mono (by omega)))
    clear an;have CX := Lib.hid (iterPos_of Gm.out);go_wp2_with fail;exact ⟨⟨p + 1, by omega, Gm.out, nB.out, cS.out⟩, by rw [CX.out, wm.out]; omega⟩
   have hnext := fun ty => Lib.run_next_end_at (P := Tryz.prog) wr w.heap.size qp p ty hit hlt;obtain rfl : p = 10 := (by omega);obtain ⟨A3, c3, rfl, eC⟩ := aP hown;have HO := Lib.hid hown;clear hit jl hown;go_wp2_with fail;go_meet;exact ⟨_, _, _, CT, rfl, .inl ⟨HT.out, by decide⟩, by decide, Rd.fk HO.out, mw⟩
  by_cases h5 : s = Hr
  ·subst h5;have HR := Lib.hid (jC.new w Hr Nj 2 (by decide +kernel) (by decide) (by decide) #[.int .i32 880, .int .i32 1023] rfl rfl);unfold Hr;go_wp2_with fail;go_meet;exact HR.out
  by_cases h6 : s = GN
  ·subst h6;have HR := Lib.hid (jC.new w GN Nv 2 (by decide +kernel) (by decide) (by decide) #[.int .i32 1024, .int .i32 1279] rfl rfl);unfold GN;go_wp2_with fail;go_meet;exact HR.out
  by_cases h7 : s = GI
  ·subst h7;have HR := Lib.hid (jC.new w GI KO 4 (by decide +kernel) (by decide) (by decide) #[.int .i32 9, .int .i32 10, .int .i32 32, .int .i32 32] rfl rfl);unfold GI;go_wp2_with fail;go_meet;exact HR.out
  by_cases h8 : s = Ia
  ·subst h8;have HR := Lib.hid (jC.new w Ia K7 2 (by decide +kernel) (by decide) (by decide) #[.int .i32 0, .int .i32 1114111] rfl rfl);unfold Ia;go_wp2_with fail;go_meet;exact HR.out
  have HN := Lib.hid (jC.none w s (by unfold iH oS; rw [if_neg h8, if_neg h7, if_neg h6, if_neg h5, if_neg h4, if_neg h3, if_neg h2, if_neg h1, if_neg h0]));have q0 : (s.toList == [100, 105, 103, 105, 116]) = false := iV h0;have q1 : (s.toList == [108, 111, 119, 101, 114]) = false := iV h1;have q2 : (s.toList == [117, 112, 112, 101, 114]) = false := iV h2;have q3 : (s.toList == [108, 101, 116, 116, 101, 114]) = false := iV h3;have q4 : (s.toList == [118, 111, 119, 101, 108]) = false := iV h4;have q5 : (s.toList == [103, 114, 101, 101, 107]) = false := iV h5;have q6 : (s.toList == [99, 121, 114, 105, 108, 108, 105, 99]) = false := iV h6;have q7 : (s.toList == [115, 112, 97, 99, 101]) = false := iV h7;have q8 : (s.toList == [97, 110, 121]) = false := iV h8;clear h0 h1 h2 h3 h4 h5 h6 h7 h8;go_wp2_with fail;go_meet;exact HN.out
 obtain ⟨A, n, c, S, rfl, hS, UB, hrd, hb⟩ := hcut;have hn : n = 2 * S.length := (by have := hrd.1; rw [bt, mV] at this; omega);have vl := Lib.hid hrd;have HB := Lib.hid hb;have HS := Lib.hid hS;have F3 := Lib.hid hn;have Q1 : n ≤ 20 := (by omega);clear hrd hb hS hn;go_wp2_with fail;go_loopw [6, 7] (fun out i wr => ∃ j : Nat, j ≤ S.length ∧ i = .int .i64 ((2 * j : Nat) : Int) ∧ wr.ownsRow wc.heap.size 74 2 out j (ak (S.take j)) ∧ (j = 0 → out = .slice none 0 0) ∧ Below wc.heap.size wc wr) (fun _ i _ => n - (intOf i).toNat);(case atStart => exact ⟨0, Nat.zero_le _, rfl, World.ownsRow_nil _ _ _ _, fun _ => rfl, Below.refl _ _⟩);obtain ⟨j, hj0, rfl, hown, hnil, Hz⟩ := hrel;by_cases hlt : j < S.length
 ·obtain ⟨⟨x, y⟩, hx⟩ : ∃ z, S[j]? = some z := ⟨_, List.getElem?_eq_getElem hlt⟩;obtain ⟨b, off, rfl, eG, hcells⟩ := vl.out.2 (by have := F3.out; omega);obtain ⟨e0, e1⟩ := Cn S j x y hx;have d0 : wr.cell? ⟨b, off + 2 * j, none⟩ = some (.int .i32 x) := (Hz.cell (p := ⟨b, off + 2 * j, none⟩) eG).trans (hcells _ _ (by rw [bO, e0]; rfl));have d1 : wr.cell? ⟨b, off + (2 * j + 1), none⟩ = some (.int .i32 y) := (Hz.cell (p := ⟨b, off + (2 * j + 1), none⟩) eG).trans (hcells _ _ (by rw [bO, e1]; rfl));have HT := Lib.hid (show S.take (j + 1) = S.take j ++ [(x, y)] by rw [List.take_add_one, hx]; rfl);have hz := Hz.size;obtain ⟨Av, cv, rfl, kr⟩ := aP hown;have HO := Lib.hid hown;have N5 := Lib.hid Hz;have nO : 2 * j + 1 < n := (by have := F3.out; omega);have hg : decide (((2 * j : Nat) : Int) + 1 < (n : Int)) = true := decide_eq_true (by omega);have hw1 : IntKind.i64.wrap (((2 * j : Nat) : Int) + 1) = ((2 * j : Nat) : Int) + 1 := wrap_small _ (by omega) (by omega);have yQ : IntKind.i64.wrap (((2 * j : Nat) : Int) + 2) = ((2 * j : Nat) : Int) + 2 := wrap_small _ (by omega) (by omega);clear hx e0 e1 hcells hown Hz hnil;have nR := Lib.hid (World.ownsRow.alloc HO.out (.cells #[.int .i32 x, .int .i32 y] 74));have b8 := Lib.hid (N5.out.alloc hz (.cells #[.int .i32 x, .int .i32 y] 74));have HN := Lib.hid (Rd.new wr 74 2 1 [.int .i32 x, .int .i32 y] rfl);generalize hm : 2 * j = m at *;have HM := Lib.hid hm;clear hm;have S5 : j ≤ 10 := (by omega);have k0 : (0 : Int) ≤ (m : Int) := (by omega);have k1 : (m : Int) < (n : Int) := (by omega);have k2 : (0 : Int) ≤ (m : Int) + 1 := (by omega);have k3 : (m : Int) + 1 < (n : Int) := (by omega);go_upto_region 28 with fail;refine aD (S := (fun w' => w'.cell? ⟨b, off + m, none⟩ = some (.int .i32 x) ∧ w'.cell? ⟨b, off + (m + 1), none⟩ = some (.int .i32 y))) [4, 9] (by kernel_rfl) ⟨d0, d1⟩ (fun bf => ?_)
  refine aa (i := 0) (oi := ⟨some 51, _, _, _, _, _⟩) (v := ?_) rfl (by kernel_rfl) (by kernel_rfl) (by kernel_rfl) (fun _ _ _ h => h) (Or.inl ⟨by rfl, ?_⟩) ?_;rotate_left 1
  ·intro wq _;go_simp;(try with_reducible rfl)
  (try simp only [Act.put, List.setIfInBounds_toArray, List.set_cons_zero, List.set_cons_succ]);refine aa (i := 1) (oi := ⟨some 52, _, _, _, _, _⟩) (v := ?_) rfl (by kernel_rfl) (by kernel_rfl) (by kernel_rfl) (fun _ _ _ h => h) (Or.inl ⟨by rfl, ?_⟩) ?_;rotate_left 1
  ·intro wq _;go_simp;(try with_reducible rfl)
  (try simp only [Act.put, List.setIfInBounds_toArray, List.set_cons_zero, List.set_cons_succ]);refine aa (i := 2) (oi := ⟨some 53, _, _, _, _, _⟩) (v := ?_) rfl (by kernel_rfl) (by kernel_rfl) (by kernel_rfl) (fun _ _ _ h => h) (Or.inl ⟨by rfl, ?_⟩) ?_;rotate_left 1
  ·intro wq _;go_simp;(try with_reducible rfl)
  (try simp only [Act.put, List.setIfInBounds_toArray, List.set_cons_zero, List.set_cons_succ]);refine aa (i := 3) (oi := ⟨some 54, _, _, _, _, _⟩) (v := ?_) rfl (by kernel_rfl) (by kernel_rfl) (by kernel_rfl) (fun _ _ _ h => h) (Or.inl ⟨by rfl, ?_⟩) ?_;rotate_left 1
  ·intro wq _;go_simp;(try with_reducible rfl)
  (try simp only [Act.put, List.setIfInBounds_toArray, List.set_cons_zero, List.set_cons_succ]);refine ai (i := 4) (oi := ⟨some 55, _, _, _, _, _⟩) (v := ?_) rfl (by kernel_rfl) (by kernel_rfl) (by kernel_rfl) (by kernel_rfl) (by kernel_rfl) (fun _ _ _ h => h) (Or.inl ⟨by rfl, ?_⟩) (by assumption) ?_;rotate_left 1
  ·intro wq bS;(try dsimp only at bS);go_simp;(try with_reducible rfl)
  (try simp only [Act.put, List.setIfInBounds_toArray, List.set_cons_zero, List.set_cons_succ]);refine aa (i := 5) (oi := ⟨some 56, _, _, _, _, _⟩) (v := ?_) rfl (by kernel_rfl) (by kernel_rfl) (by kernel_rfl) (fun _ _ _ h => h) (Or.inl ⟨by rfl, ?_⟩) ?_;rotate_left 1
  ·intro wq _;go_simp;(try with_reducible rfl)
  (try simp only [Act.put, List.setIfInBounds_toArray, List.set_cons_zero, List.set_cons_succ]);refine aa (i := 6) (oi := ⟨some 57, _, _, _, _, _⟩) (v := ?_) rfl (by kernel_rfl) (by kernel_rfl) (by kernel_rfl) (fun _ _ _ h => h) (Or.inl ⟨by rfl, ?_⟩) ?_;rotate_left 1
  ·intro wq _;go_simp;(try with_reducible rfl)
  (try simp only [Act.put, List.setIfInBounds_toArray, List.set_cons_zero, List.set_cons_succ]);refine aa (i := 7) (oi := ⟨some 58, _, _, _, _, _⟩) (v := ?_) rfl (by kernel_rfl) (by kernel_rfl) (by kernel_rfl) (fun _ _ _ h => h) (Or.inl ⟨by rfl, ?_⟩) ?_;rotate_left 1
  ·intro wq _;go_simp;(try with_reducible rfl)
  (try simp only [Act.put, List.setIfInBounds_toArray, List.set_cons_zero, List.set_cons_succ]);refine aa (i := 8) (oi := ⟨some 59, _, _, _, _, _⟩) (v := ?_) rfl (by kernel_rfl) (by kernel_rfl) (by kernel_rfl) (fun _ _ _ h => h) (Or.inl ⟨by rfl, ?_⟩) ?_;rotate_left 1
  ·intro wq _;go_simp;(try with_reducible rfl)
  (try simp only [Act.put, List.setIfInBounds_toArray, List.set_cons_zero, List.set_cons_succ]);refine ai (i := 9) (oi := ⟨some 60, _, _, _, _, _⟩) (v := ?_) rfl (by kernel_rfl) (by kernel_rfl) (by kernel_rfl) (by kernel_rfl) (by kernel_rfl) (fun _ _ _ h => h) (Or.inl ⟨by rfl, ?_⟩) (by assumption) ?_;rotate_left 1
  ·intro wq bS;(try dsimp only at bS);go_simp;(try with_reducible rfl)
  (try simp only [Act.put, List.setIfInBounds_toArray, List.set_cons_zero, List.set_cons_succ]);refine aa (i := 10) (oi := ⟨some 61, _, _, _, _, _⟩) (v := ?_) rfl (by kernel_rfl) (by kernel_rfl) (by kernel_rfl) (fun _ _ _ h => h) (Or.inl ⟨by rfl, ?_⟩) ?_;rotate_left 1
  ·intro wq _;go_simp;(try with_reducible rfl)
  (try simp only [Act.put, List.setIfInBounds_toArray, List.set_cons_zero, List.set_cons_succ]);refine az (i := 11) (o := ⟨some 62, _, _, _, _, _⟩) (by kernel_rfl) rfl (by kernel_rfl) (fun K hK => ?_);go_simp;(try dsimp only);refine hK.out _ _ ?_;clear hK K;(try simp only [Act.put, List.setIfInBounds_toArray, List.set_cons_zero, List.set_cons_succ]);refine az (i := 12) (o := ⟨some 63, _, _, _, _, _⟩) (by kernel_rfl) rfl (by kernel_rfl) (fun K hK => ?_);refine aL _ rfl (.tmp 51) (.tmp 62) 22 rfl wc.heap.size 74 j0 _ 2 8 Tryz.underlying22 hj y0 y1 y2 rfl (by decide) _ _ _ rfl nR.out (wr.heap.size + 1) (some ⟨wr.heap.size, 0, none⟩) 1 1 [.int .i32 x, .int .i32 y] rfl HN.out (gv _ _) (by simp only [maxLen]; omega) (by omega) b8.out.size ?_;intro v' w9 an;(try dsimp only);refine hK.out _ _ ?_;clear hK K;have cE := Lib.hid ((ah b8.out).trans (an.below (ah b8.out).size nR.out));have fe := Lib.hid (show w9.ownsRow wc.heap.size 74 2 v' (j + 1) (ak (S.take (j + 1))) by rw [HT.out, dH]; exact an.own);clear an;(try simp only [Act.put, List.setIfInBounds_toArray, List.set_cons_zero, List.set_cons_succ]);refine aa (i := 13) (oi := ⟨some 6, _, _, _, _, _⟩) (v := ?_) rfl (by kernel_rfl) (by kernel_rfl) (by kernel_rfl) (fun _ _ _ h => h) (Or.inl ⟨by rfl, ?_⟩) ?_;rotate_left 1
  ·intro wq _;go_simp;(try with_reducible rfl)
  (try simp only [Act.put, List.setIfInBounds_toArray, List.set_cons_zero, List.set_cons_succ]);refine aN (by kernel_rfl) ?_ _;go_simp;go_wp2_with fail;exact ⟨⟨j + 1, by omega, by rw [show ((2 * (j + 1) : Nat) : Int) = (m : Int) + 2 by have := HM.out; omega], fe.out, fun h => absurd h (by omega), cE.out⟩, by simp [intOf]; omega⟩
 obtain rfl : j = S.length := (by omega);generalize hm : 2 * S.length = m at *;have SG : m ≤ 20 := (by have := F3.out; omega);have hg : decide ((m : Int) + 1 < (n : Int)) = false := decide_eq_false (by have := F3.out; omega);rw [List.take_length] at hown;have HO := Lib.hid hown;have HN := Lib.hid hnil;have N5 := Lib.hid Hz;have hz := Hz.size;clear hown hnil Hz;go_wp2_with fail;go_ret;unfold qI;rcases HS.out with ⟨h1, h2⟩ | ⟨h1, rfl⟩
 ·rw [h1];obtain ⟨g, cv, rfl, kr, hg0, hg1⟩ := sU HO.out (List.length_pos_iff.2 h2);exact ⟨⟨_, _, _, rfl, di.fk HO.out (fun b hb => Nat.le_trans HB.out.size (eB HO.out hb).1), kr⟩, HB.out.trans (N5.out.mono HB.out.size)⟩
 rw [h1];have hh := HN.out rfl;subst hh;exact ⟨rfl, HB.out.trans (N5.out.mono HB.out.size)⟩
theorem jE {w : World} {g : Nat} {t : TypeId} {c c' : Array Value} (h : aM w g t c) : aM (w.setRow g c') g t c' := setRow_heap w g c c' t (0, 0) h
theorem dK (w : World) (g : Nat) (c : Array Value) : aF w g (w.setRow g c) := ⟨by simp, rfl, rfl, rfl, fun k _ hne => setRow_other w g k c hne⟩
section
variable {ops : Array Oper} {rest : List Oper} {o : Oper} {a : Act} {w : World} {Q : Exit → Act → World → Prop} {ty t : TypeId} {x y : Operand} {g : Nat}
theorem wpList_load_row {cs : Array Value} (hgd : o.guard = none) (ho : o.op = .load ty x) (hu : ∃ fs, Tryz.prog.underlying ty = some (.struct fs)) (hi : (Tryz.prog.info? ty).map (·.size) = some cs.size)
    (hx : a.eval x = .pointer (some ⟨g, 0, none⟩)) (hb : aM w g t cs) (h : wpList Tryz.prog ops Q rest (a.put o.dst (.agg cs)) w) : wpList Tryz.prog ops Q (o :: rest) a w := by
 obtain ⟨fs, hu⟩ := hu;refine wpList_plain hgd fun K hK => ?_;have hr : (execOp a.eval o).run Tryz.prog w = .ok (.value (.agg cs)) w := by
  unfold execOp;rw [ho];simp only [hx, Instr.loadAt, Instr.sureAddr, Sem.run_bind, Sem.run_pure, Result.andThen, run_loadVar_row w g t ty cs (0, 0) (.struct fs) hb hu rfl hi]
 unfold Oper.wp;rw [hr];exact hK _ _ h
theorem wpList_store_row {c vs : Array Value} (hgd : o.guard = none) (ho : o.op = .store ty x y) (hi : (Tryz.prog.info? ty).map (·.size) = some vs.size) (hs : c.size = vs.size) (h1 : vs.all (·.oneCell') = true)
    (hx : a.eval x = .pointer (some ⟨g, 0, none⟩)) (hy : a.eval y = .agg vs) (hb : aM w g t c) (h : wpList Tryz.prog ops Q rest (a.put o.dst undef) (w.setRow g vs)) : wpList Tryz.prog ops Q (o :: rest) a w := by
 refine wpList_plain hgd fun K hK => ?_;have hr : (execOp a.eval o).run Tryz.prog w = .ok .skip (w.setRow g vs) := by
  unfold execOp;rw [ho];simp only [hx, hy, Instr.storeAt, Instr.sureAddr, Sem.run_bind, Sem.run_pure, Result.andThen, run_storeVar_row w g t ty c vs hb hi hs h1]
 unfold Oper.wp;rw [hr];exact hK _ _ h
theorem gz {K : Act → World → Prop} {E : Prop} {c vs : Array Value} (hgd : o.guard = none) (ho : o.op = .store ty x y) (hi : (Tryz.prog.info? ty).map (·.size) = some vs.size) (hs : c.size = vs.size) (h1 : vs.all (·.oneCell') = true)
    (hx : a.eval x = .pointer (some ⟨g, 0, none⟩)) (hy : a.eval y = .agg vs) (hb : aM w g t c) (h : K (a.put o.dst undef) (w.setRow g vs)) : if Region.wanted o (yielded ops a.tmps) = true then Oper.wp Tryz.prog o a w K Q else E := by
 have hw : Region.wanted o (yielded ops a.tmps) = true := (by simp [Region.wanted, hgd]);rw [if_pos hw];have hr : (execOp a.eval o).run Tryz.prog w = .ok .skip (w.setRow g vs) := by
  unfold execOp;rw [ho];simp only [hx, hy, Instr.storeAt, Instr.sureAddr, Sem.run_bind, Sem.run_pure, Result.andThen, run_storeVar_row w g t ty c vs hb hi hs h1]
 unfold Oper.wp;rw [hr];exact h
theorem dV {fn : Func} {p : Tmp} {tmps : Array Value} {cs : Array Value} (h : fn.results = #[.cell p ty]) (hp : tmps.getD p undef = .pointer (some ⟨g, 0, none⟩)) (hu : ∃ fs, Tryz.prog.underlying ty = some (.struct fs)) (hi : (Tryz.prog.info? ty).map (·.size) = some cs.size) (hb : aM w g t cs) :
    (results fn tmps).run Tryz.prog w = .ok (.agg cs) w := by
 obtain ⟨fs, hu⟩ := hu;have hl := run_loadVar_row w g t ty cs (0, 0) (.struct fs) hb hu rfl hi;have BE : tmps[p]?.getD undef = .pointer (some ⟨g, 0, none⟩) := (by simpa using hp);simp only [results, h];simp [BE, asAddr, hl]
end
end Go.Proofs.YthnhbcohfoodlaaGreatDoor
