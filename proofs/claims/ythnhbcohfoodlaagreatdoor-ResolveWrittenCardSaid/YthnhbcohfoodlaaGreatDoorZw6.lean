/- Span + SpanInfo + Same + SetSame + SetP + SetBuild + SetOps -/
import Derived.Test.YthnhbcohfoodlaaGreatDoorZw2
import Derived.Test.YthnhbcohfoodlaaGreatDoorRows
import Derived.Deep.QuietTactic
import Derived.BigQuiet
set_option maxHeartbeats 1600000
set_option maxRecDepth 100000
namespace Go.Proofs.YthnhbcohfoodlaaGreatDoor
open Go.RowKit
abbrev af := List (Int × Int)
def ah (l : af) : List Value := l.flatMap fun k => [.int .i32 k.1, .int .i32 k.2]
theorem bD (l : af) : (ah l).length = l.length * 2 := by
 induction l with
 | nil => rfl
 | cons x l ih => simp only [ah, List.flatMap_cons] at ih ⊢; simp [ih]; omega
theorem jC (l : af) (k : Nat) (x y : Int) (hk : l[k]? = some (x, y)) : (ah l)[k * 2]? = some (.int .i32 x) ∧ (ah l)[k * 2 + 1]? = some (.int .i32 y) := by
 induction l generalizing k with
 | nil => simp at hk
 | cons z l ih =>
  cases k with
  | zero => simp at hk; subst hk; simp [ah]
  | succ k =>
   have := ih k (by simpa using hk);simp only [ah, List.flatMap_cons] at this ⊢;have e1 : (k + 1) * 2 = k * 2 + 1 + 1 := (by omega);rw [e1];simpa using this
def kW (w : World) (B : Nat) (A : Option Addr) (n : Nat) (l : af) : Prop := Rd w B 2 A n (ah l)
theorem kW.len {w : World} {B n : Nat} {A : Option Addr} {l : af} (h : kW w B A n l) : l.length = n := by
 have := h.1; rw [bD] at this; omega
theorem kW.at {w : World} {B n : Nat} {A : Option Addr} {l : af} (h : kW w B A n l) {k : Nat} {x y : Int} (hk : l[k]? = some (x, y)) :
    ∃ b off : Nat, A = some ⟨b, off, none⟩ ∧ b < B ∧ w.cell? ⟨b, off + k * 2, none⟩ = some (.int .i32 x) ∧ w.cell? ⟨b, off + k * 2 + 1, none⟩ = some (.int .i32 y) := by
 have hl : k < l.length := (List.getElem?_eq_some_iff.1 hk).1;have := h.len;obtain ⟨b, off, e, hb, hc⟩ := h.2 (by omega);obtain ⟨h1, h2⟩ := jC l k x y hk;exact ⟨b, off, e, hb, hc _ _ h1, by rw [Nat.add_assoc]; exact hc _ _ h2⟩
def rM : Option Int → Int → Bool
  | none, _ => false
  | some h, a => decide (a ≤ h + 1)
def gx : Option Int → af → Int
  | _, [] => 0
  | prev, (a, b) :: r => if a < 0 ∨ 1114111 < b ∨ b < a then 3 else if rM prev a = true then 2 else gx (some b) r
def cm (l : af) : Int := if 200 < l.length then 5 else gx none l
def jU (l : af) : Nat → Option Int
  | 0 => none
  | k + 1 => (l[k]?).map (·.2)
def Ix (w : World) (l : af) (n : Nat) (i : Value) (wr : World) : Prop :=
  ∃ j : Nat, j ≤ n ∧ i = .int .i64 j ∧ gx none l = gx (jU l j) (l.drop j) ∧ (∀ h, jU l j = some h → h ≤ 1114111 ∧ 0 ≤ h) ∧ Below w.heap.size w wr
theorem jB {α : Type} {l : List α} {j : Nat} {x : α} (h : l[j]? = some x) : l.drop j = x :: l.drop (j + 1) := by
 obtain ⟨hj, rfl⟩ := List.getElem?_eq_some_iff.1 h;exact List.drop_eq_getElem_cons hj
theorem iN (A : Option Addr) (n c : Nat) (l : af) (w : World) (hn : n ≤ 9223372036854775807) (hl : kW w w.heap.size A n l) :
    Calls Tryz.prog 16 #[.slice A n c] w fun e w' => e = .returned (.int .i64 (cm l)) ∧ Below w.heap.size w w' := by
 have bY := Lib.hid hl.len;have HL := Lib.hid hl;clear hl;by_cases h2 : 200 < n
 ·have HP := Lib.hid (show cm l = 5 by unfold cm; rw [if_pos (by rw [bY.out]; exact h2)]);go_enter Tryz.func16, Tryz.ntmps16;go_wp2_with fail;go_ret;rw [HP.out];exact ⟨rfl, Below.refl _ _⟩
 have HP := Lib.hid (show cm l = gx none l by unfold cm; rw [if_neg (by rw [bY.out]; exact h2)]);go_enter Tryz.func16, Tryz.ntmps16;go_wp2_with fail;go_loopw [10] (Ix w l n) (fun i _ => n - (intOf i).toNat);(case atStart => exact ⟨0, Nat.zero_le _, rfl, rfl, by simp [jU], Below.refl _ _⟩);obtain ⟨j, hj, rfl, bU, OM, hb⟩ := hrel;have hz := hb.size;by_cases hlt : j < n
 ·obtain ⟨⟨x, y⟩, hx⟩ : ∃ z, l[j]? = some z := ⟨_, List.getElem?_eq_getElem (by rw [bY.out]; exact hlt)⟩;obtain ⟨b, off, rfl, eD, c0, c1⟩ := HL.out.at hx;have d0 := (hb.cell (p := ⟨b, off + j * 2, none⟩) eD).trans c0;have d1 := (hb.cell (p := ⟨b, off + j * 2 + 1, none⟩) eD).trans c1;rw [jB hx, gx] at bU;by_cases hr : x < 0 ∨ 1114111 < y ∨ y < x
  ·rw [if_pos hr] at bU;have HG := Lib.hid bU;have HX := Lib.hid hx;clear bU hx c0 c1 OM;rcases (show x < 0 ∨ (0 ≤ x ∧ 1114111 < y) ∨ (0 ≤ x ∧ y ≤ 1114111 ∧ y < x) by omega) with h1 | ⟨h1, h2⟩ | ⟨h1, h2, h3⟩
   all_goals
     clear hr
     go_wp2_with fail
     go_ret
     rw [HP.out, HG.out]
     exact ⟨rfl, hb.alloc hz _⟩
  rw [if_neg hr] at bU;have zj : 0 ≤ x := (by omega);have iT : y ≤ 1114111 := (by omega);have mB : x ≤ y := (by omega);have G6 : ∀ h, jU l (j + 1) = some h → h ≤ 1114111 ∧ 0 ≤ h := by
   intro h hh;simp only [jU, hx, Option.map_some, Option.some.injEq] at hh;omega
  have BI : jU l (j + 1) = some y := (by simp [jU, hx]);clear hr;cases j with
  | zero =>
   rw [if_neg (by simp [jU, rM])] at bU;rw [← BI] at bU;have HG := Lib.hid bU;have HX := Lib.hid hx;have Um := Lib.hid G6;clear bU hx c0 c1 OM G6 BI;simp only [Nat.zero_mul, Nat.add_zero] at d0 d1;go_wp2_with fail;go_quiet (fail);go_wp2_with fail;exact ⟨⟨1, by omega, by go_num, HG.out, Um.out, below_drewN (hb.alloc hz _) _⟩, by simp [intOf]; omega⟩
  | succ j =>
   obtain ⟨⟨p, h⟩, hp⟩ : ∃ z, l[j]? = some z := ⟨_, List.getElem?_eq_getElem (by rw [bY.out]; omega)⟩;have hh : jU l (j + 1) = some h := (by simp [jU, hp]);obtain ⟨Xs, J7⟩ := OM h hh;obtain ⟨b2, off2, e2, _, _, c3⟩ := HL.out.at hp;cases e2;have d3 : (wr.alloc (Obj.cells #[Value.int IntKind.i32 x, Value.int IntKind.i32 y] 74)).cell? ⟨b, off + j * 2 + 1, none⟩ = some (.int .i32 h) := ((hb.alloc hz _).cell (p := ⟨b, off + j * 2 + 1, none⟩) eD).trans c3;have hj0 : decide ((0 : Int) < (j : Int) + 1) = true := decide_eq_true (by omega);have hjn : j < n := (by omega);have Ko : (j : Int) < (n : Int) := (by omega);have hjw : IntKind.i64.wrap (j : Int) = (j : Int) := IntWalk.i64_in _ (by omega);rw [hh] at bU;simp only [rM, decide_eq_true_eq] at bU;by_cases ht : x ≤ h + 1
   ·rw [if_pos ht] at bU;have HG := Lib.hid bU;have HX := Lib.hid hx;have wT := Lib.hid hp;clear bU hx c0 c1 c3 OM G6 BI hh hp;have ht2 : decide (x ≤ h + 1) = true := (by simpa using ht);go_wp2_with fail;go_quiet (fail);go_wp2_with fail;go_ret;rw [HP.out, HG.out];exact ⟨rfl, below_drewN (hb.alloc hz _) _⟩
   rw [if_neg ht, ← BI] at bU;have HG := Lib.hid bU;have HX := Lib.hid hx;have wT := Lib.hid hp;have Um := Lib.hid G6;clear bU hx c0 c1 c3 OM G6 BI hh hp;have ht2 : decide (x ≤ h + 1) = false := (by simpa using ht);go_wp2_with fail;go_quiet (fail);go_wp2_with fail;exact ⟨⟨j + 1 + 1, by omega, by go_num, HG.out, Um.out, below_drewN (hb.alloc hz _) _⟩, by simp [intOf]; omega⟩
 obtain rfl : j = n := (by omega);rw [List.drop_of_length_le (by rw [bY.out]; omega)] at bU;have HG := Lib.hid (bU.trans (show gx (jU l j) [] = 0 from rfl));clear bU OM;go_wp2_with fail;go_ret;rw [HP.out, HG.out];exact ⟨rfl, hb⟩
theorem jc : (Tryz.prog.info? 74).map (fun i => (i.zero, i.size, i.bytes)) = some (some (.agg #[.int .i32 0, .int .i32 0]), 2, 8) := by kernel_rfl
theorem lB (x y : Int) : ∀ u ∈ [Value.int .i32 x, .int .i32 y], u.oneCell' = true := by
 intro u hu; simp at hu; rcases hu with rfl | rfl <;> rfl
theorem fX (l : af) (x y : Int) : ah (l ++ [(x, y)]) = ah l ++ [.int .i32 x, .int .i32 y] := by simp [ah]
theorem kR (l : af) : ∀ u ∈ ah l, u.oneCell' = true := by
 intro u hu;simp only [ah, List.mem_flatMap] at hu;obtain ⟨x, _, hu⟩ := hu;simp at hu;rcases hu with rfl | rfl <;> rfl
theorem uI (a b : af) : ah (a ++ b) = ah a ++ ah b := by simp [ah]
theorem lH (a b : af) : ah (a ++ b) = ah a ++ ah b := by simp [ah]
theorem KM {xs ys : List Int} {k : Nat} (h : (xs[k]?.getD 0 != ys[k]?.getD 0) = true) : false = (xs == ys) := by
 symm;rw [beq_eq_false_iff_ne];rintro rfl;simp at h
theorem Fj {xs ys : List Int} {k : Nat} (hx : k < xs.length) (hy : k < ys.length) (he : xs.take k = ys.take k) (h : (xs[k]?.getD 0 != ys[k]?.getD 0) = false) : xs.take (k + 1) = ys.take (k + 1) := by
 rw [List.take_succ_eq_append_getElem hx, List.take_succ_eq_append_getElem hy, he];simp [List.getElem?_eq_getElem hx, List.getElem?_eq_getElem hy] at h;rw [h]
theorem Jx {xs ys : List Int} {n : Nat} (hx : xs.length = n) (hy : ys.length = n) (he : xs.take n = ys.take n) : true = (xs == ys) := by
 rw [List.take_of_length_le (by omega), List.take_of_length_le (by omega)] at he;simp [he]
theorem JO (A C : Option Addr) (n m c d : Nat) (xs ys : List Int) (w : World) (hn : n ≤ 9223372036854775807)
    (hx : N8 w w.heap.size A n xs) (hy : N8 w w.heap.size C m ys) :
    Calls Tryz.prog 127 #[.slice A n c, .slice C m d] w fun e w' => e = .returned (.bool (xs == ys)) ∧ ∃ k, w' = w.drewN k := by
 have lx := hx.len;have ly := hy.len;by_cases hnm : n = m
 ·subst hnm;go_enter Tryz.func127, Tryz.ntmps127;go_wp2;go_loopw [13] (fun i wr => ∃ k q : Nat, k ≤ n ∧ i = .int .i64 k ∧ wr = w.drewN q ∧ xs.take k = ys.take k) (fun i _ => n - (intOf i).toNat);(case atStart => exact ⟨0, 0, Nat.zero_le _, rfl, rfl, rfl⟩);obtain ⟨k, q, hk, rfl, rfl, heq⟩ := hrel;have HE := Lib.hid heq;clear heq;by_cases hlt : k < n
  ·obtain ⟨b1, o1, rfl, bt, fO⟩ := hx.at hlt;obtain ⟨b2, o2, rfl, bn, jj⟩ := hy.at hlt;have HX := Lib.hid hx;have HY := Lib.hid hy;have LX := Lib.hid lx;have LY := Lib.hid ly;clear hx hy lx ly;go_wp2;go_quiet (fail);go_wp2
   ·have hd : (xs[k]?.getD 0 != ys[k]?.getD 0) = true := (by assumption);go_ret;exact ⟨e9 (KM hd), _, World.drewN_drewN _ _ _⟩
   have hd : (xs[k]?.getD 0 != ys[k]?.getD 0) = false := (by assumption);refine ⟨⟨k + 1, _, by omega, by go_num, rfl, Fj (by rw [LX.out]; exact hlt) (by rw [LY.out]; exact hlt) HE.out hd⟩, by simp [intOf]; omega⟩
  obtain rfl : k = n := (by omega);go_wp2;go_ret;exact ⟨e9 (Jx lx ly HE.out), _, rfl⟩
 have hne : ((n : Int) != (m : Int)) = true := (by rw [bne_iff_ne]; omega);go_enter Tryz.func127, Tryz.ntmps127;go_wp2;go_ret;refine ⟨e9 ?_, 0, rfl⟩;symm;rw [beq_eq_false_iff_ne];intro e;rw [e] at lx;omega
theorem Bs (A C : Option Addr) (n m c d : Nat) (s : af) (w : World) (B B' : Nat) (hn : n ≤ 9223372036854775807) (hx : kW w B A n s) (hy : kW w B' C m s) :
    Calls Tryz.prog 12 #[.slice A n c, .slice C m d] w fun e w' => e = .returned (.bool true) ∧ ∃ k, w' = w.drewN k := by
 obtain rfl : n = m := (by rw [← hx.len, ← hy.len]);have HX := Lib.hid hx;have HY := Lib.hid hy;have HL := Lib.hid hx.len;clear hx hy;go_enter Tryz.func12, Tryz.ntmps12;go_wp2;go_loopw [13] (fun i wr => ∃ k q : Nat, k ≤ n ∧ i = .int .i64 k ∧ wr = w.drewN q) (fun i _ => n - (intOf i).toNat);(case atStart => exact ⟨0, 0, Nat.zero_le _, rfl, rfl⟩);obtain ⟨k, q, hk, rfl, rfl⟩ := hrel;by_cases hlt : k < n
 ·obtain ⟨⟨x, y⟩, hz⟩ : ∃ z, s[k]? = some z := ⟨_, List.getElem?_eq_getElem (by rw [HL.out]; exact hlt)⟩;obtain ⟨b1, o1, rfl, bt, c0, c1⟩ := HX.out.at hz;obtain ⟨b2, o2, rfl, bn, d0, d1⟩ := HY.out.at hz;clear hz;go_wp2;go_quiet (fail);go_wp2;refine ⟨⟨k + 1, _, by omega, by go_num, rfl⟩, by simp [intOf]; omega⟩
 obtain rfl : k = n := (by omega);go_wp2;go_ret;exact ⟨rfl, _, rfl⟩
def bP (s : af) (r : Int) : Bool := s.any fun x => decide (x.1 ≤ r) && decide (r ≤ x.2)
theorem wI (s : af) : ∀ prev : Option Int, gx prev s = 0 → (∀ h, prev = some h → ∀ x ∈ s, h + 1 < x.1) ∧ (∀ x ∈ s, 0 ≤ x.1 ∧ x.1 ≤ x.2 ∧ x.2 ≤ 1114111) ∧ s.Pairwise (fun a b => a.2 + 1 < b.1) := by
 induction s with
 | nil => intro prev _; exact ⟨by simp, by simp, List.Pairwise.nil⟩
 | cons z s ih =>
  obtain ⟨a, b⟩ := z;intro prev h;rw [gx] at h;by_cases h1 : a < 0 ∨ 1114111 < b ∨ b < a
  ·rw [if_pos h1] at h; cases h
  rw [if_neg h1] at h;by_cases h2 : rM prev a = true
  ·rw [if_pos h2] at h; cases h
  rw [if_neg h2] at h;obtain ⟨g1, g2, g3⟩ := ih (some b) h;refine ⟨fun q hq x hx => ?_, fun x hx => ?_, List.pairwise_cons.2 ⟨fun x hx => g1 b rfl x hx, g3⟩⟩
  ·subst hq;simp only [rM, decide_eq_true_eq] at h2;rcases List.mem_cons.1 hx with rfl | hx
   ·show q + 1 < a; omega
   have := g1 b rfl x hx; have := (g2 x hx).1; omega
  rcases List.mem_cons.1 hx with rfl | hx
  ·show 0 ≤ a ∧ a ≤ b ∧ b ≤ 1114111; omega
  exact g2 x hx
structure aF (s : af) : Prop where
  size : s.length ≤ 200
  each : ∀ x ∈ s, 0 ≤ x.1 ∧ x.1 ≤ x.2 ∧ x.2 ≤ 1114111
  rise : s.Pairwise (fun a b => a.2 + 1 < b.1)
theorem jN {s : af} (h : cm s = 0) : aF s := by
 unfold cm at h;by_cases h2 : 200 < s.length
 ·rw [if_pos h2] at h; cases h
 rw [if_neg h2] at h;obtain ⟨_, g2, g3⟩ := wI s none h;exact ⟨by omega, g2, g3⟩
theorem aF.lt {s : af} (h : aF s) {i j : Nat} {x y : Int × Int} (hx : s[i]? = some x) (hy : s[j]? = some y) (hij : i < j) : x.2 + 1 < y.1 := by
 obtain ⟨hi, rfl⟩ := List.getElem?_eq_some_iff.1 hx;obtain ⟨hj, rfl⟩ := List.getElem?_eq_some_iff.1 hy;exact List.pairwise_iff_getElem.1 h.rise i j hi hj hij
def mL (s : af) : List Int := s.flatMap fun x => [x.1, x.2 + 1]
def Dl (E : List Int) (r : Int) : List Int :=
  if 1114111 < r ∨ r ∈ E then E else E.takeWhile (fun x => decide (x < r)) ++ r :: E.dropWhile (fun x => decide (x < r))
theorem zi {E : List Int} (h : E.Pairwise (· < ·)) (r : Int) : (∀ x ∈ E.takeWhile (fun x => decide (x < r)), x < r) ∧ (∀ x ∈ E.dropWhile (fun x => decide (x < r)), r ≤ x) := by
 induction E with
 | nil => simp
 | cons a E ih =>
  rw [List.pairwise_cons] at h;obtain ⟨g1, g2⟩ := ih h.2;by_cases ha : a < r
  ·simp only [List.takeWhile_cons, List.dropWhile_cons, ha, decide_true, if_true];exact ⟨fun x hx => by rcases List.mem_cons.1 hx with rfl | hx; exact ha; exact g1 x hx, g2⟩
  simp only [List.takeWhile_cons, List.dropWhile_cons, ha, decide_false, Bool.false_eq_true, if_false];refine ⟨by simp, fun x hx => ?_⟩;rcases List.mem_cons.1 hx with rfl | hx;omega;have := h.1 x hx; omega
theorem JK (E : List Int) (r x : Int) : x ∈ Dl E r ↔ x ∈ E ∨ (x = r ∧ r ≤ 1114111) := by
 unfold Dl;split
 ·rename_i h;constructor;exact .inl;rintro (h2 | ⟨rfl, h2⟩);exact h2;rcases h with h | h;omega;exact h
 rename_i h;rw [not_or] at h;have : x ∈ E ↔ x ∈ E.takeWhile (fun x => decide (x < r)) ∨ x ∈ E.dropWhile (fun x => decide (x < r)) := by
  (conv => lhs; rw [← List.takeWhile_append_dropWhile (p := fun x => decide (x < r)) (l := E)]);rw [List.mem_append]
 rw [List.mem_append, List.mem_cons, this];constructor
 ·rintro (h1 | rfl | h1);exact .inl (.inl h1);exact .inr ⟨rfl, by omega⟩;exact .inl (.inr h1)
 rintro ((h1 | h1) | ⟨rfl, _⟩);exact .inl h1;exact .inr (.inr h1);exact .inr (.inl rfl)
theorem FF {E : List Int} (h : E.Pairwise (· < ·)) (r : Int) : (Dl E r).Pairwise (· < ·) := by
 unfold Dl;split;exact h;rename_i hn;rw [not_or] at hn;obtain ⟨g1, g2⟩ := zi h r;have hs := h;rw [← List.takeWhile_append_dropWhile (p := fun x => decide (x < r)) (l := E), List.pairwise_append] at hs;rw [List.pairwise_append];refine ⟨hs.1, List.pairwise_cons.2 ⟨fun x hx => ?_, hs.2.1⟩, fun a ha b hb => ?_⟩
 ·have := g2 x hx;rcases Int.lt_or_eq_of_le this with h1 | rfl;exact h1;exact absurd ((List.dropWhile_sublist _).subset hx) hn.2
 rcases List.mem_cons.1 hb with rfl | hb;exact g1 a ha;exact hs.2.2 a ha b hb
theorem BK (xs : List Int) : ∀ (E : List Int) (x : Int), x ∈ xs.foldl Dl E ↔ x ∈ E ∨ (x ∈ xs ∧ x ≤ 1114111) := by
 induction xs with
 | nil => intro E x; simp
 | cons a xs ih =>
  intro E x;rw [List.foldl_cons, ih, JK];constructor
  ·rintro ((h | ⟨rfl, h⟩) | ⟨h, h2⟩);exact .inl h;exact .inr ⟨by simp, h⟩;exact .inr ⟨by simp [h], h2⟩
  rintro (h | ⟨h, h2⟩);exact .inl (.inl h);rcases List.mem_cons.1 h with rfl | h;exact .inl (.inr ⟨rfl, h2⟩);exact .inr ⟨h, h2⟩
theorem yM (xs : List Int) : ∀ (E : List Int), E.Pairwise (· < ·) → (xs.foldl Dl E).Pairwise (· < ·) := by
 induction xs with
 | nil => intro E h; exact h
 | cons a xs ih => intro E h; rw [List.foldl_cons]; exact ih _ (FF h a)
def kQ (E : List Int) (j : Nat) : Int := match E[j + 1]? with | some y => y - 1 | none => 1114111
theorem CZ {s : af} {a r : Int} (MD : a ≤ r) (h : ∀ e ∈ mL s, ¬ (a < e ∧ e ≤ r)) : bP s r = bP s a := by
 unfold bP;induction s with
 | nil => rfl
 | cons x s ih =>
  have h1 := h x.1 (by simp [mL]);have h2 := h (x.2 + 1) (by simp [mL]);have hs := ih (fun e he => h e (by unfold mL at he ⊢; rw [List.flatMap_cons]; exact List.mem_append_right _ he));rw [List.any_cons, List.any_cons, hs];congr 1;rw [Bool.eq_iff_iff];simp only [Bool.and_eq_true, decide_eq_true_eq];omega
theorem qi {E : List Int} (h : E.Pairwise (· < ·)) {i j : Nat} {x y : Int} (hx : E[i]? = some x) (hy : E[j]? = some y) (hij : i < j) : x < y := by
 obtain ⟨hi, rfl⟩ := List.getElem?_eq_some_iff.1 hx;obtain ⟨hj, rfl⟩ := List.getElem?_eq_some_iff.1 hy;exact List.pairwise_iff_getElem.1 h i j hi hj hij
def fV (L : List af) : List Int := (L.flatMap mL).foldl Dl [0]
structure Canon (s : af) : Prop where
  each : ∀ x ∈ s, 0 ≤ x.1 ∧ x.1 ≤ x.2 ∧ x.2 ≤ 1114111
  rise : s.Pairwise (fun a b => a.2 + 1 < b.1)
theorem aF.canon {s : af} (h : aF s) : Canon s := ⟨h.each, h.rise⟩
theorem Canon.right {s : af} (h : Canon s) (hl : s.length ≤ 200) : aF s := ⟨hl, h.each, h.rise⟩
theorem Canon.nil : Canon [] := ⟨by simp, List.Pairwise.nil⟩
theorem Canon.tail {x : Int × Int} {s : af} (h : Canon (x :: s)) : Canon s := ⟨fun y hy => h.each y (List.mem_cons_of_mem _ hy), (List.pairwise_cons.1 h.rise).2⟩
theorem Canon.low {x : Int × Int} {s : af} (h : Canon (x :: s)) : ∀ y ∈ s, x.2 + 1 < y.1 := (List.pairwise_cons.1 h.rise).1
theorem cg (x : Int × Int) (s : af) (r : Int) : bP (x :: s) r = ((decide (x.1 ≤ r) && decide (r ≤ x.2)) || bP s r) := rfl
theorem dy (a b : af) (r : Int) : bP (a ++ b) r = (bP a r || bP b r) := List.any_append
theorem pP {s : af} {r : Int} : bP s r = true ↔ ∃ x ∈ s, x.1 ≤ r ∧ r ≤ x.2 := by
 unfold bP;rw [List.any_eq_true];constructor
 ·rintro ⟨x, hx, h⟩; simp at h; exact ⟨x, hx, h⟩
 rintro ⟨x, hx, h1, h2⟩; exact ⟨x, hx, by simp [h1, h2]⟩
theorem ep {s : af} {m r : Int} (h : ∀ y ∈ s, m < y.1) (hr : r ≤ m) : bP s r = false := by
 rw [Bool.eq_false_iff, ne_eq, pP];rintro ⟨x, hx, h1, _⟩;have := h x hx;omega
theorem FR {s : af} {m r : Int} (h : ∀ y ∈ s, y.2 < m) (hr : m ≤ r) : bP s r = false := by
 rw [Bool.eq_false_iff, ne_eq, pP];rintro ⟨x, hx, _, h1⟩;have := h x hx;omega
theorem yK : ∀ {a b : af}, Canon a → Canon b → (∀ r, 0 ≤ r → r ≤ 1114111 → bP a r = bP b r) → a = b := by
 intro a;induction a with
 | nil =>
  intro b _ hb h;cases b with
  | nil => rfl
  | cons y b =>
   have hy := hb.each y List.mem_cons_self;have := h y.1 (by omega) (by omega);rw [cg] at this;simp [bP, hy.2.1] at this
 | cons x a ih =>
  intro b ha hb h;have hx := ha.each x List.mem_cons_self;cases b with
  | nil =>
   have := h x.1 (by omega) (by omega);rw [cg] at this;simp [bP, hx.2.1] at this
  | cons y b =>
   have hy := hb.each y List.mem_cons_self;have la := ha.low;have lb := hb.low;have h1 : ¬ x.1 < y.1 := fun hl => by
    have := h x.1 (by omega) (by omega);rw [cg, cg, ep (s := b) (m := y.2 + 1) lb (by omega)] at this;simp [hx.2.1] at this;omega
   have h2 : ¬ y.1 < x.1 := fun hl => by
    have := h y.1 (by omega) (by omega);rw [cg, cg, ep (s := a) (m := x.2 + 1) la (by omega)] at this;simp [hy.2.1] at this;omega
   have h3 : ¬ x.2 < y.2 := fun hl => by
    have := h (x.2 + 1) (by omega) (by omega);rw [cg, cg, ep (s := a) (m := x.2 + 1) la (by omega), ep (s := b) (m := y.2 + 1) lb (by omega), decide_eq_false (p := x.2 + 1 ≤ x.2) (by omega), decide_eq_true (p := y.1 ≤ x.2 + 1) (by omega), decide_eq_true (p := x.2 + 1 ≤ y.2) (by omega)] at this;simp at this
   have h4 : ¬ y.2 < x.2 := fun hl => by
    have := h (y.2 + 1) (by omega) (by omega);rw [cg, cg, ep (s := b) (m := y.2 + 1) lb (by omega), ep (s := a) (m := x.2 + 1) la (by omega), decide_eq_false (p := y.2 + 1 ≤ y.2) (by omega), decide_eq_true (p := x.1 ≤ y.2 + 1) (by omega), decide_eq_true (p := y.2 + 1 ≤ x.2) (by omega)] at this;simp at this
   obtain ⟨xl, xh⟩ := x;obtain ⟨yl, yh⟩ := y;dsimp only at *;obtain rfl : xl = yl := (by omega);obtain rfl : xh = yh := (by omega);rw [ih ha.tail hb.tail fun r KZ zj => ?_];by_cases hr : r ≤ xh
   ·rw [ep (s := a) (m := xh + 1) la (by omega), ep (s := b) (m := xh + 1) lb (by omega)]
   have := h r KZ zj;rw [cg, cg] at this;simpa [hr] using this
def rL (acc : af) (low high : Int) : af :=
  match acc.getLast? with
  | some x => if x.2 + 1 = low then acc.dropLast ++ [(x.1, high)] else acc ++ [(low, high)]
  | none => acc ++ [(low, high)]
theorem Gi (low high : Int) : rL [] low high = [(low, high)] := rfl
theorem CD (i : af) (x : Int × Int) (low high : Int) : rL (i ++ [x]) low high = if x.2 + 1 = low then i ++ [(x.1, high)] else i ++ [x] ++ [(low, high)] := by
 unfold rL;simp
theorem lR {i : af} {x : Int × Int} (hi : Canon i) (hx : 0 ≤ x.1 ∧ x.1 ≤ x.2 ∧ x.2 ≤ 1114111) (h : ∀ y ∈ i, y.2 + 1 < x.1) : Canon (i ++ [x]) := by
 refine ⟨fun y hy => ?_, ?_⟩
 ·rcases List.mem_append.1 hy with hy | hy;exact hi.each y hy;rw [List.mem_singleton.1 hy]; exact hx
 rw [List.pairwise_append];exact ⟨hi.rise, List.pairwise_singleton _ _, fun a ha b hb => by rw [List.mem_singleton.1 hb]; exact h a ha⟩
theorem uX {i : af} {x : Int × Int} (h : Canon (i ++ [x])) : Canon i ∧ (0 ≤ x.1 ∧ x.1 ≤ x.2 ∧ x.2 ≤ 1114111) ∧ ∀ y ∈ i, y.2 + 1 < x.1 := by
 have hr := List.pairwise_append.1 h.rise;exact ⟨⟨fun y hy => h.each y (by simp [hy]), hr.1⟩, h.each x (by simp), fun y hy => hr.2.2 y hy x (by simp)⟩
theorem DG {acc : af} {low high : Int} (h : Canon acc) (hl : ∀ x ∈ acc, x.2 < low) (h0 : 0 ≤ low) (h1 : low ≤ high) (h2 : high ≤ 1114111) :
    Canon (rL acc low high) ∧ (∀ x ∈ rL acc low high, x.2 ≤ high) ∧ ∀ r, bP (rL acc low high) r = (bP acc r || (decide (low ≤ r) && decide (r ≤ high))) := by
 rcases List.eq_nil_or_concat acc with rfl | ⟨i, x, rfl⟩
 ·rw [Gi];exact ⟨⟨by simp; omega, List.pairwise_singleton _ _⟩, by simp, fun r => by simp [bP]⟩
 rw [List.concat_eq_append] at h hl ⊢;obtain ⟨hi, hx, SB⟩ := uX h;have hxl := hl x (by simp);rw [CD];by_cases he : x.2 + 1 = low
 ·rw [if_pos he];refine ⟨lR hi ⟨hx.1, by simp only; omega, h2⟩ SB, fun y hy => ?_, fun r => ?_⟩
  ·rcases List.mem_append.1 hy with hy | hy
   ·have := hl y (by simp [hy]); omega
   rw [List.mem_singleton.1 hy]; exact Int.le_refl _
  rw [dy, dy, Bool.or_assoc];congr 1;simp only [bP, List.any_cons, List.any_nil, Bool.or_false];rw [Bool.eq_iff_iff];simp;omega
 rw [if_neg he];refine ⟨lR h ⟨h0, h1, h2⟩ (fun y hy => ?_), fun y hy => ?_, fun r => ?_⟩
 ·simp only;rcases List.mem_append.1 hy with hy | hy
  ·have := SB y hy; omega
  rw [List.mem_singleton.1 hy]; omega
 ·rcases List.mem_append.1 hy with hy | hy
  ·have := hl y hy; omega
  rw [List.mem_singleton.1 hy]; exact Int.le_refl _
 rw [dy];congr 1;simp [bP]
def cK (E : List Int) (h : Int → Bool) : Nat → af
  | 0 => []
  | j + 1 => match E[j]? with | none => cK E h j | some a => if h a = true then rL (cK E h j) a (kQ E j) else cK E h j
theorem vR {E : List Int} {h : Int → Bool} {j : Nat} {a : Int} (ha : E[j]? = some a) : cK E h (j + 1) = if h a = true then rL (cK E h j) a (kQ E j) else cK E h j := by
 rw [cK, ha]
def qX (E : List Int) (h : Int → Bool) : af × Int := if 200 < (cK E h E.length).length then ([], 5) else (cK E h E.length, 0)
structure nK (E : List Int) (h : Int → Bool) : Prop where
  rise : E.Pairwise (· < ·)
  zero : E[0]? = some 0
  top : ∀ x ∈ E, x ≤ 1114111
  const : ∀ j a r, E[j]? = some a → a ≤ r → r ≤ kQ E j → h r = h a
theorem Nf {E : List Int} {h : Int → Bool} (hE : nK E h) {j : Nat} {a : Int} (ha : E[j]? = some a) : 0 ≤ a ∧ a ≤ kQ E j ∧ kQ E j ≤ 1114111 ∧ kQ E j + 1 = (E[j + 1]?).getD 1114112 := by
 have h0 : 0 ≤ a := by
  rcases Nat.eq_zero_or_pos j with rfl | hj
  ·rw [hE.zero] at ha; obtain rfl := Option.some.inj ha; exact Int.le_refl _
  have := qi hE.rise hE.zero ha hj; omega
 have ht := hE.top a (List.mem_of_getElem? ha);unfold kQ;cases he : E[j + 1]? with
 | none => simp; omega
 | some y =>
  have h1 := qi hE.rise ha he (Nat.lt_succ_self j);have h2 := hE.top y (List.mem_of_getElem? he);simp only [Option.getD_some];omega
theorem DW {E : List Int} {h : Int → Bool} (hE : nK E h) : ∀ j, j ≤ E.length →
    Canon (cK E h j) ∧ (∀ x ∈ cK E h j, x.2 < (E[j]?).getD 1114112) ∧ ∀ r, 0 ≤ r → r < (E[j]?).getD 1114112 → bP (cK E h j) r = h r := by
 intro j;induction j with
 | zero => exact fun _ => ⟨Canon.nil, by simp [cK], fun r h0 h1 => by rw [hE.zero] at h1; simp at h1; omega⟩
 | succ j ih =>
  intro hj;obtain ⟨a, ha⟩ : ∃ a, E[j]? = some a := ⟨_, List.getElem?_eq_getElem (by omega)⟩;obtain ⟨i1, i2, i3⟩ := ih (by omega);rw [ha, Option.getD_some] at i2 i3;obtain ⟨g0, g1, g2, g3⟩ := Nf hE ha;rw [vR ha, ← g3];by_cases hh : h a = true
  ·rw [if_pos hh];obtain ⟨s1, s2, s3⟩ := DG i1 i2 g0 g1 g2;refine ⟨s1, fun x hx => by have := s2 x hx; omega, fun r h0 h1 => ?_⟩;rw [s3];by_cases hr : r < a
   ·rw [i3 r h0 hr]; simp; omega
   rw [hE.const j a r ha (by omega) (by omega), hh];simp; right; omega
  rw [if_neg hh];refine ⟨i1, fun x hx => by have := i2 x hx; omega, fun r h0 h1 => ?_⟩;by_cases hr : r < a;exact i3 r h0 hr;rw [hE.const j a r ha (by omega) (by omega), FR i2 (by omega)];simpa using hh
theorem xz {E : List Int} {h : Int → Bool} (hE : nK E h) : Canon (cK E h E.length) ∧ ∀ r, 0 ≤ r → r ≤ 1114111 → bP (cK E h E.length) r = h r := by
 obtain ⟨h1, _, h3⟩ := DW hE E.length (Nat.le_refl _);rw [List.getElem?_eq_none (Nat.le_refl _), Option.getD_none] at h3;exact ⟨h1, fun r a b => h3 r a (by omega)⟩
theorem AN {E : List Int} {h : Int → Bool} (hE : nK E h) {s : af} (hs : Canon s) (hh : ∀ r, 0 ≤ r → r ≤ 1114111 → bP s r = h r) : qX E h = if 200 < s.length then ([], 5) else (s, 0) := by
 obtain ⟨b1, b2⟩ := xz hE;have : cK E h E.length = s := yK b1 hs fun r h0 h1 => (by rw [b2 r h0 h1, hh r h0 h1]);unfold qX;rw [this]
theorem iy (L : List af) (x : Int) : x ∈ fV L ↔ x = 0 ∨ (x ∈ L.flatMap mL ∧ x ≤ 1114111) := by
 unfold fV;rw [BK];simp
theorem kT (L : List af) : (fV L).Pairwise (· < ·) := yM _ _ (by simp)
theorem yF {L : List af} {j : Nat} {a : Int} (hj : (fV L)[j]? = some a) : ∀ r, a ≤ r → r ≤ kQ (fV L) j → ∀ e ∈ L.flatMap mL, ¬ (a < e ∧ e ≤ r) := by
 intro r h1 h2 e he ⟨h3, h4⟩;have LC := kT L;by_cases hm : e ≤ 1114111
 ·obtain ⟨k, hk⟩ := List.mem_iff_getElem?.1 ((iy L e).2 (.inr ⟨he, hm⟩));have hjk : j < k := by
   rcases Nat.lt_or_ge j k with h | h;exact h;rcases Nat.lt_or_ge k j with h' | h'
   ·have := qi LC hk hj h'; omega
   obtain rfl : j = k := (by omega);rw [hk] at hj; injection hj; omega
  obtain ⟨y, hy⟩ : ∃ y, (fV L)[j + 1]? = some y := ⟨_, List.getElem?_eq_getElem (by have := (List.getElem?_eq_some_iff.1 hk).1; omega)⟩;unfold kQ at h2;rw [hy] at h2;simp only at h2;rcases Nat.lt_or_ge (j + 1) k with h | h
  ·have := qi LC hy hk h; omega
  obtain rfl : k = j + 1 := (by omega);rw [hy] at hk; injection hk; omega
 unfold kQ at h2;split at h2
 ·rename_i y hy;have := (iy L y).1 (List.mem_of_getElem? hy);omega
 omega
theorem wF {L : List af} (h : ∀ s ∈ L, aF s) : (fV L)[0]? = some 0 := by
 obtain ⟨k, hk⟩ := List.mem_iff_getElem?.1 ((iy L 0).2 (.inl rfl));obtain ⟨y, hy⟩ : ∃ y, (fV L)[0]? = some y := ⟨_, List.getElem?_eq_getElem (by have := (List.getElem?_eq_some_iff.1 hk).1; omega)⟩;have h0 : 0 ≤ y := by
  rcases (iy L y).1 (List.mem_of_getElem? hy) with rfl | ⟨h1, _⟩;exact Int.le_refl _;obtain ⟨s, hs, he⟩ := List.mem_flatMap.1 h1;unfold mL at he;obtain ⟨x, hx, he⟩ := List.mem_flatMap.1 he;have := (h s hs).each x hx;simp at he;omega
 rcases Nat.eq_zero_or_pos k with rfl | hk0;exact hk;have := qi (kT L) hy hk hk0;omega
theorem pO {L : List af} (hL : ∀ s ∈ L, aF s) {h : Int → Bool} (hc : ∀ a r, (∀ s ∈ L, bP s r = bP s a) → h r = h a) : nK (fV L) h where
  rise := kT L
  zero := wF hL
  top := fun x hx => by rcases (iy L x).1 hx with rfl | ⟨_, h⟩ <;> omega
  const := fun j a r hj h1 h2 => hc a r fun s hs => CZ h1 fun e he => yF hj r h1 h2 e (List.mem_flatMap.2 ⟨s, hs, he⟩)
def kH (op : Int) (a b : af) (r : Int) : Bool := (decide (op = 124) && (bP a r || bP b r)) || ((decide (op = 38) && bP a r && bP b r) || (decide (op = 45) && bP a r && !bP b r))
def mq (op : Int) (a b : af) : af × Int :=
  if cm a ≠ 0 then ([], cm a) else if op = 94 then qX (fV [a]) (fun r => !bP a r)
  else if cm b ≠ 0 then ([], cm b) else qX (fV [a, b]) (kH op a b)
theorem lE {s : af} (h : aF s) : cm s = 0 := by
 unfold cm;rw [if_neg (by have := h.size; omega)];have : ∀ (s : af) (prev : Option Int), Canon s → (∀ p, prev = some p → ∀ x ∈ s, p + 1 < x.1) → gx prev s = 0 := by
  intro s;induction s with
  | nil => intro prev _ _; rfl
  | cons x s ih =>
   intro prev hc hp;obtain ⟨a, b⟩ := x;have he := hc.each (a, b) List.mem_cons_self;dsimp only at he;rw [gx, if_neg (by omega)];have ht : rM prev a = false := by
    cases prev with
    | none => rfl
    | some p => have := hp p rfl (a, b) List.mem_cons_self; simp [rM]; omega
   rw [ht, if_neg (by decide)];exact ih _ hc.tail fun p YY y hy => by
    obtain rfl := Option.some.inj YY;exact hc.low y hy
 exact this s none h.canon (fun p hp => by cases hp)
theorem Nr {a s : af} (ha : aF a) (hs : Canon s) (hh : ∀ r, 0 ≤ r → r ≤ 1114111 → bP s r = !bP a r) (b : af) : mq 94 a b = if 200 < s.length then ([], 5) else (s, 0) := by
 unfold mq;rw [if_neg (by rw [lE ha]; decide), if_pos rfl];exact AN (pO (by simpa using ha) (fun x r h => by rw [h a (by simp)])) hs hh
theorem Ee {op : Int} {a b s : af} (kG : op ≠ 94) (ha : aF a) (hb : aF b) (hs : Canon s) (hh : ∀ r, 0 ≤ r → r ≤ 1114111 → bP s r = kH op a b r) : mq op a b = if 200 < s.length then ([], 5) else (s, 0) := by
 unfold mq;rw [if_neg (by rw [lE ha]; decide), if_neg kG, if_neg (by rw [lE hb]; decide)];exact AN (pO (by simpa using ⟨ha, hb⟩) (fun x r h => by unfold kH; rw [h a (by simp), h b (by simp)])) hs hh
theorem sg (E : List Int) (h : Int → Bool) (hE : nK E h) : aF (qX E h).1 := by
 unfold qX;by_cases hl : 200 < (cK E h E.length).length
 ·rw [if_pos hl]; exact ⟨Nat.zero_le _, by simp, List.Pairwise.nil⟩
 rw [if_neg hl]; exact (xz hE).1.right (by omega)
theorem i5 (op : Int) {a b : af} (ha : aF a) (hb : aF b) : aF (mq op a b).1 := by
 unfold mq;rw [if_neg (by rw [lE ha]; decide)];by_cases kG : op = 94
 ·rw [if_pos kG]; exact sg _ _ (pO (by simpa using ha) (fun x r h => by rw [h a (by simp)]))
 rw [if_neg kG, if_neg (by rw [lE hb]; decide)];exact sg _ _ (pO (by simpa using ⟨ha, hb⟩) (fun x r h => by unfold kH; rw [h a (by simp), h b (by simp)]))
end Go.Proofs.YthnhbcohfoodlaaGreatDoor
