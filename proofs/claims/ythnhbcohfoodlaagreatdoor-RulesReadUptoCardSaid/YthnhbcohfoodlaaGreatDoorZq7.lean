/- Span + SetP + SetBuild + SetOps + SynP -/
import Derived.Test.YthnhbcohfoodlaaGreatDoorZq3
import Derived.Test.YthnhbcohfoodlaaGreatDoorRows
import Derived.Deep.QuietTactic
import Derived.BigQuiet
set_option maxHeartbeats 1600000
set_option maxRecDepth 100000
namespace Go.Proofs.YthnhbcohfoodlaaGreatDoor
open Go.RowKit
abbrev ag := List (Int × Int)
def ak (l : ag) : List Value := l.flatMap fun k => [.int .i32 k.1, .int .i32 k.2]
theorem aY (l : ag) : (ak l).length = l.length * 2 := by
 induction l with
 | nil => rfl
 | cons x l ih => simp only [ak, List.flatMap_cons] at ih ⊢; simp [ih]; omega
theorem gF (l : ag) (k : Nat) (x y : Int) (hk : l[k]? = some (x, y)) : (ak l)[k * 2]? = some (.int .i32 x) ∧ (ak l)[k * 2 + 1]? = some (.int .i32 y) := by
 induction l generalizing k with
 | nil => simp at hk
 | cons z l ih =>
  cases k with
  | zero => simp at hk; subst hk; simp [ak]
  | succ k =>
   have := ih k (by simpa using hk);simp only [ak, List.flatMap_cons] at this ⊢;have e1 : (k + 1) * 2 = k * 2 + 1 + 1 := (by omega);rw [e1];simpa using this
def kH (w : World) (B : Nat) (A : Option Addr) (n : Nat) (l : ag) : Prop := Rd w B 2 A n (ak l)
theorem kH.len {w : World} {B n : Nat} {A : Option Addr} {l : ag} (h : kH w B A n l) : l.length = n := by
 have := h.1; rw [aY] at this; omega
theorem kH.at {w : World} {B n : Nat} {A : Option Addr} {l : ag} (h : kH w B A n l) {k : Nat} {x y : Int} (hk : l[k]? = some (x, y)) :
    ∃ b off : Nat, A = some ⟨b, off, none⟩ ∧ b < B ∧ w.cell? ⟨b, off + k * 2, none⟩ = some (.int .i32 x) ∧ w.cell? ⟨b, off + k * 2 + 1, none⟩ = some (.int .i32 y) := by
 have hl : k < l.length := (List.getElem?_eq_some_iff.1 hk).1;have := h.len;obtain ⟨b, off, e, hb, hc⟩ := h.2 (by omega);obtain ⟨h1, h2⟩ := gF l k x y hk;exact ⟨b, off, e, hb, hc _ _ h1, by rw [Nat.add_assoc]; exact hc _ _ h2⟩
def ov : Option Int → Int → Bool
  | none, _ => false
  | some h, a => decide (a ≤ h + 1)
def fq : Option Int → ag → Int
  | _, [] => 0
  | prev, (a, b) :: r => if a < 0 ∨ 1114111 < b ∨ b < a then 3 else if ov prev a = true then 2 else fq (some b) r
def cU (l : ag) : Int := if 200 < l.length then 5 else fq none l
def ew (l : ag) : Nat → Option Int
  | 0 => none
  | k + 1 => (l[k]?).map (·.2)
def xB (w : World) (l : ag) (n : Nat) (i : Value) (wr : World) : Prop :=
  ∃ j : Nat, j ≤ n ∧ i = .int .i64 j ∧ fq none l = fq (ew l j) (l.drop j) ∧ (∀ h, ew l j = some h → h ≤ 1114111 ∧ 0 ≤ h) ∧ Below w.heap.size w wr
theorem gE {α : Type} {l : List α} {j : Nat} {x : α} (h : l[j]? = some x) : l.drop j = x :: l.drop (j + 1) := by
 obtain ⟨hj, rfl⟩ := List.getElem?_eq_some_iff.1 h;exact List.drop_eq_getElem_cons hj
theorem kC (A : Option Addr) (n c : Nat) (l : ag) (w : World) (hn : n ≤ 9223372036854775807) (hl : kH w w.heap.size A n l) :
    Calls Tryz.prog 16 #[.slice A n c] w fun e w' => e = .returned (.int .i64 (cU l)) ∧ Below w.heap.size w w' := by
 have cn := Lib.hid hl.len;have HL := Lib.hid hl;clear hl;by_cases h2 : 200 < n
 ·have HP := Lib.hid (show cU l = 5 by unfold cU; rw [if_pos (by rw [cn.out]; exact h2)]);go_enter Tryz.func16, Tryz.ntmps16;go_wp2_with fail;go_ret;rw [HP.out];exact ⟨rfl, Below.refl _ _⟩
 have HP := Lib.hid (show cU l = fq none l by unfold cU; rw [if_neg (by rw [cn.out]; exact h2)]);go_enter Tryz.func16, Tryz.ntmps16;go_wp2_with fail;go_loopw [10] (xB w l n) (fun i _ => n - (intOf i).toNat);(case atStart => exact ⟨0, Nat.zero_le _, rfl, rfl, by simp [ew], Below.refl _ _⟩);obtain ⟨j, hj, rfl, bz, Bw, hb⟩ := hrel;have hz := hb.size;by_cases hlt : j < n
 ·obtain ⟨⟨x, y⟩, hx⟩ : ∃ z, l[j]? = some z := ⟨_, List.getElem?_eq_getElem (by rw [cn.out]; exact hlt)⟩;obtain ⟨b, off, rfl, eG, c0, c1⟩ := HL.out.at hx;have d0 := (hb.cell (p := ⟨b, off + j * 2, none⟩) eG).trans c0;have d1 := (hb.cell (p := ⟨b, off + j * 2 + 1, none⟩) eG).trans c1;rw [gE hx, fq] at bz;by_cases hr : x < 0 ∨ 1114111 < y ∨ y < x
  ·rw [if_pos hr] at bz;have HG := Lib.hid bz;have HX := Lib.hid hx;clear bz hx c0 c1 Bw;rcases (show x < 0 ∨ (0 ≤ x ∧ 1114111 < y) ∨ (0 ≤ x ∧ y ≤ 1114111 ∧ y < x) by omega) with h1 | ⟨h1, h2⟩ | ⟨h1, h2, h3⟩
   all_goals
     clear hr
     go_wp2_with fail
     go_ret
     rw [HP.out, HG.out]
     exact ⟨rfl, hb.alloc hz _⟩
  rw [if_neg hr] at bz;have uP : 0 ≤ x := (by omega);have gL : y ≤ 1114111 := (by omega);have nt : x ≤ y := (by omega);have sK : ∀ h, ew l (j + 1) = some h → h ≤ 1114111 ∧ 0 ≤ h := by
   intro h hh;simp only [ew, hx, Option.map_some, Option.some.injEq] at hh;omega
  have lg : ew l (j + 1) = some y := (by simp [ew, hx]);clear hr;cases j with
  | zero =>
   rw [if_neg (by simp [ew, ov])] at bz;rw [← lg] at bz;have HG := Lib.hid bz;have HX := Lib.hid hx;have JE := Lib.hid sK;clear bz hx c0 c1 Bw sK lg;simp only [Nat.zero_mul, Nat.add_zero] at d0 d1;go_wp2_with fail;go_quiet (fail);go_wp2_with fail;exact ⟨⟨1, by omega, by go_num, HG.out, JE.out, below_drewN (hb.alloc hz _) _⟩, by simp [intOf]; omega⟩
  | succ j =>
   obtain ⟨⟨p, h⟩, hp⟩ : ∃ z, l[j]? = some z := ⟨_, List.getElem?_eq_getElem (by rw [cn.out]; omega)⟩;have hh : ew l (j + 1) = some h := (by simp [ew, hp]);obtain ⟨TW, MR⟩ := Bw h hh;obtain ⟨b2, off2, e2, _, _, c3⟩ := HL.out.at hp;cases e2;have d3 : (wr.alloc (Obj.cells #[Value.int IntKind.i32 x, Value.int IntKind.i32 y] 74)).cell? ⟨b, off + j * 2 + 1, none⟩ = some (.int .i32 h) := ((hb.alloc hz _).cell (p := ⟨b, off + j * 2 + 1, none⟩) eG).trans c3;have hj0 : decide ((0 : Int) < (j : Int) + 1) = true := decide_eq_true (by omega);have hjn : j < n := (by omega);have Da : (j : Int) < (n : Int) := (by omega);have SI : IntKind.i64.wrap (j : Int) = (j : Int) := IntWalk.i64_in _ (by omega);rw [hh] at bz;simp only [ov, decide_eq_true_eq] at bz;by_cases ht : x ≤ h + 1
   ·rw [if_pos ht] at bz;have HG := Lib.hid bz;have HX := Lib.hid hx;have nQ := Lib.hid hp;clear bz hx c0 c1 c3 Bw sK lg hh hp;have KG : decide (x ≤ h + 1) = true := (by simpa using ht);go_wp2_with fail;go_quiet (fail);go_wp2_with fail;go_ret;rw [HP.out, HG.out];exact ⟨rfl, below_drewN (hb.alloc hz _) _⟩
   rw [if_neg ht, ← lg] at bz;have HG := Lib.hid bz;have HX := Lib.hid hx;have nQ := Lib.hid hp;have JE := Lib.hid sK;clear bz hx c0 c1 c3 Bw sK lg hh hp;have KG : decide (x ≤ h + 1) = false := (by simpa using ht);go_wp2_with fail;go_quiet (fail);go_wp2_with fail;exact ⟨⟨j + 1 + 1, by omega, by go_num, HG.out, JE.out, below_drewN (hb.alloc hz _) _⟩, by simp [intOf]; omega⟩
 obtain rfl : j = n := (by omega);rw [List.drop_of_length_le (by rw [cn.out]; omega)] at bz;have HG := Lib.hid (bz.trans (show fq (ew l j) [] = 0 from rfl));clear bz Bw;go_wp2_with fail;go_ret;rw [HP.out, HG.out];exact ⟨rfl, hb⟩
def bn (s : ag) (r : Int) : Bool := s.any fun x => decide (x.1 ≤ r) && decide (r ≤ x.2)
theorem tE (s : ag) : ∀ prev : Option Int, fq prev s = 0 → (∀ h, prev = some h → ∀ x ∈ s, h + 1 < x.1) ∧ (∀ x ∈ s, 0 ≤ x.1 ∧ x.1 ≤ x.2 ∧ x.2 ≤ 1114111) ∧ s.Pairwise (fun a b => a.2 + 1 < b.1) := by
 induction s with
 | nil => intro prev _; exact ⟨by simp, by simp, List.Pairwise.nil⟩
 | cons z s ih =>
  obtain ⟨a, b⟩ := z;intro prev h;rw [fq] at h;by_cases h1 : a < 0 ∨ 1114111 < b ∨ b < a
  ·rw [if_pos h1] at h; cases h
  rw [if_neg h1] at h;by_cases h2 : ov prev a = true
  ·rw [if_pos h2] at h; cases h
  rw [if_neg h2] at h;obtain ⟨g1, g2, g3⟩ := ih (some b) h;refine ⟨fun q hq x hx => ?_, fun x hx => ?_, List.pairwise_cons.2 ⟨fun x hx => g1 b rfl x hx, g3⟩⟩
  ·subst hq;simp only [ov, decide_eq_true_eq] at h2;rcases List.mem_cons.1 hx with rfl | hx
   ·show q + 1 < a; omega
   have := g1 b rfl x hx; have := (g2 x hx).1; omega
  rcases List.mem_cons.1 hx with rfl | hx
  ·show 0 ≤ a ∧ a ≤ b ∧ b ≤ 1114111; omega
  exact g2 x hx
structure aK (s : ag) : Prop where
  size : s.length ≤ 200
  each : ∀ x ∈ s, 0 ≤ x.1 ∧ x.1 ≤ x.2 ∧ x.2 ≤ 1114111
  rise : s.Pairwise (fun a b => a.2 + 1 < b.1)
theorem Ca {s : ag} (h : cU s = 0) : aK s := by
 unfold cU at h;by_cases h2 : 200 < s.length
 ·rw [if_pos h2] at h; cases h
 rw [if_neg h2] at h;obtain ⟨_, g2, g3⟩ := tE s none h;exact ⟨by omega, g2, g3⟩
theorem aK.lt {s : ag} (h : aK s) {i j : Nat} {x y : Int × Int} (hx : s[i]? = some x) (hy : s[j]? = some y) (hij : i < j) : x.2 + 1 < y.1 := by
 obtain ⟨hi, rfl⟩ := List.getElem?_eq_some_iff.1 hx;obtain ⟨hj, rfl⟩ := List.getElem?_eq_some_iff.1 hy;exact List.pairwise_iff_getElem.1 h.rise i j hi hj hij
def dG (s : ag) : List Int := s.flatMap fun x => [x.1, x.2 + 1]
def iL (E : List Int) (r : Int) : List Int :=
  if 1114111 < r ∨ r ∈ E then E else E.takeWhile (fun x => decide (x < r)) ++ r :: E.dropWhile (fun x => decide (x < r))
theorem vf {E : List Int} (h : E.Pairwise (· < ·)) (r : Int) : (∀ x ∈ E.takeWhile (fun x => decide (x < r)), x < r) ∧ (∀ x ∈ E.dropWhile (fun x => decide (x < r)), r ≤ x) := by
 induction E with
 | nil => simp
 | cons a E ih =>
  rw [List.pairwise_cons] at h;obtain ⟨g1, g2⟩ := ih h.2;by_cases ha : a < r
  ·simp only [List.takeWhile_cons, List.dropWhile_cons, ha, decide_true, if_true];exact ⟨fun x hx => by rcases List.mem_cons.1 hx with rfl | hx; exact ha; exact g1 x hx, g2⟩
  simp only [List.takeWhile_cons, List.dropWhile_cons, ha, decide_false, Bool.false_eq_true, if_false];refine ⟨by simp, fun x hx => ?_⟩;rcases List.mem_cons.1 hx with rfl | hx;omega;have := h.1 x hx; omega
theorem DY (E : List Int) (r x : Int) : x ∈ iL E r ↔ x ∈ E ∨ (x = r ∧ r ≤ 1114111) := by
 unfold iL;split
 ·rename_i h;constructor;exact .inl;rintro (h2 | ⟨rfl, h2⟩);exact h2;rcases h with h | h;omega;exact h
 rename_i h;rw [not_or] at h;have : x ∈ E ↔ x ∈ E.takeWhile (fun x => decide (x < r)) ∨ x ∈ E.dropWhile (fun x => decide (x < r)) := by
  (conv => lhs; rw [← List.takeWhile_append_dropWhile (p := fun x => decide (x < r)) (l := E)]);rw [List.mem_append]
 rw [List.mem_append, List.mem_cons, this];constructor
 ·rintro (h1 | rfl | h1);exact .inl (.inl h1);exact .inr ⟨rfl, by omega⟩;exact .inl (.inr h1)
 rintro ((h1 | h1) | ⟨rfl, _⟩);exact .inl h1;exact .inr (.inr h1);exact .inr (.inl rfl)
theorem uf {E : List Int} (h : E.Pairwise (· < ·)) (r : Int) : (iL E r).Pairwise (· < ·) := by
 unfold iL;split;exact h;rename_i hn;rw [not_or] at hn;obtain ⟨g1, g2⟩ := vf h r;have hs := h;rw [← List.takeWhile_append_dropWhile (p := fun x => decide (x < r)) (l := E), List.pairwise_append] at hs;rw [List.pairwise_append];refine ⟨hs.1, List.pairwise_cons.2 ⟨fun x hx => ?_, hs.2.1⟩, fun a ha b hb => ?_⟩
 ·have := g2 x hx;rcases Int.lt_or_eq_of_le this with h1 | rfl;exact h1;exact absurd ((List.dropWhile_sublist _).subset hx) hn.2
 rcases List.mem_cons.1 hb with rfl | hb;exact g1 a ha;exact hs.2.2 a ha b hb
theorem yj (xs : List Int) : ∀ (E : List Int) (x : Int), x ∈ xs.foldl iL E ↔ x ∈ E ∨ (x ∈ xs ∧ x ≤ 1114111) := by
 induction xs with
 | nil => intro E x; simp
 | cons a xs ih =>
  intro E x;rw [List.foldl_cons, ih, DY];constructor
  ·rintro ((h | ⟨rfl, h⟩) | ⟨h, h2⟩);exact .inl h;exact .inr ⟨by simp, h⟩;exact .inr ⟨by simp [h], h2⟩
  rintro (h | ⟨h, h2⟩);exact .inl (.inl h);rcases List.mem_cons.1 h with rfl | h;exact .inl (.inr ⟨rfl, h2⟩);exact .inr ⟨h, h2⟩
theorem wu (xs : List Int) : ∀ (E : List Int), E.Pairwise (· < ·) → (xs.foldl iL E).Pairwise (· < ·) := by
 induction xs with
 | nil => intro E h; exact h
 | cons a xs ih => intro E h; rw [List.foldl_cons]; exact ih _ (uf h a)
theorem qW (E : List Int) (r : Int) : E.length ≤ (iL E r).length ∧ (iL E r).length ≤ E.length + 1 := by
 unfold iL;split;omega;have := congrArg List.length (List.takeWhile_append_dropWhile (p := fun x => decide (x < r)) (l := E));rw [List.length_append] at this;rw [List.length_append, List.length_cons];omega
theorem yD (xs : List Int) : ∀ (E : List Int), E.length ≤ (xs.foldl iL E).length ∧ (xs.foldl iL E).length ≤ E.length + xs.length := by
 induction xs with
 | nil => intro E; simp
 | cons a xs ih => intro E; rw [List.foldl_cons, List.length_cons]; have := ih (iL E a); have := qW E a; omega
theorem nP (s : ag) : (dG s).length = 2 * s.length := by
 induction s with
 | nil => rfl
 | cons x s ih => unfold dG at ih ⊢; rw [List.flatMap_cons, List.length_append, ih, List.length_cons]; simp; omega
def fJ (E : List Int) (j : Nat) : Int := match E[j + 1]? with | some y => y - 1 | none => 1114111
theorem zS {s : ag} {a r : Int} (H9 : a ≤ r) (h : ∀ e ∈ dG s, ¬ (a < e ∧ e ≤ r)) : bn s r = bn s a := by
 unfold bn;induction s with
 | nil => rfl
 | cons x s ih =>
  have h1 := h x.1 (by simp [dG]);have h2 := h (x.2 + 1) (by simp [dG]);have hs := ih (fun e he => h e (by unfold dG at he ⊢; rw [List.flatMap_cons]; exact List.mem_append_right _ he));rw [List.any_cons, List.any_cons, hs];congr 1;rw [Bool.eq_iff_iff];simp only [Bool.and_eq_true, decide_eq_true_eq];omega
theorem lW {E : List Int} (h : E.Pairwise (· < ·)) {i j : Nat} {x y : Int} (hx : E[i]? = some x) (hy : E[j]? = some y) (hij : i < j) : x < y := by
 obtain ⟨hi, rfl⟩ := List.getElem?_eq_some_iff.1 hx;obtain ⟨hj, rfl⟩ := List.getElem?_eq_some_iff.1 hy;exact List.pairwise_iff_getElem.1 h i j hi hj hij
def bG (L : List ag) : List Int := (L.flatMap dG).foldl iL [0]
structure Canon (s : ag) : Prop where
  each : ∀ x ∈ s, 0 ≤ x.1 ∧ x.1 ≤ x.2 ∧ x.2 ≤ 1114111
  rise : s.Pairwise (fun a b => a.2 + 1 < b.1)
theorem aK.canon {s : ag} (h : aK s) : Canon s := ⟨h.each, h.rise⟩
theorem Canon.right {s : ag} (h : Canon s) (hl : s.length ≤ 200) : aK s := ⟨hl, h.each, h.rise⟩
theorem Canon.nil : Canon [] := ⟨by simp, List.Pairwise.nil⟩
theorem Canon.tail {x : Int × Int} {s : ag} (h : Canon (x :: s)) : Canon s := ⟨fun y hy => h.each y (List.mem_cons_of_mem _ hy), (List.pairwise_cons.1 h.rise).2⟩
theorem Canon.low {x : Int × Int} {s : ag} (h : Canon (x :: s)) : ∀ y ∈ s, x.2 + 1 < y.1 := (List.pairwise_cons.1 h.rise).1
theorem b6 (x : Int × Int) (s : ag) (r : Int) : bn (x :: s) r = ((decide (x.1 ≤ r) && decide (r ≤ x.2)) || bn s r) := rfl
theorem dw (a b : ag) (r : Int) : bn (a ++ b) r = (bn a r || bn b r) := List.any_append
theorem ot {s : ag} {r : Int} : bn s r = true ↔ ∃ x ∈ s, x.1 ≤ r ∧ r ≤ x.2 := by
 unfold bn;rw [List.any_eq_true];constructor
 ·rintro ⟨x, hx, h⟩; simp at h; exact ⟨x, hx, h⟩
 rintro ⟨x, hx, h1, h2⟩; exact ⟨x, hx, by simp [h1, h2]⟩
theorem dB {s : ag} {m r : Int} (h : ∀ y ∈ s, m < y.1) (hr : r ≤ m) : bn s r = false := by
 rw [Bool.eq_false_iff, ne_eq, ot];rintro ⟨x, hx, h1, _⟩;have := h x hx;omega
theorem Cg {s : ag} {m r : Int} (h : ∀ y ∈ s, y.2 < m) (hr : m ≤ r) : bn s r = false := by
 rw [Bool.eq_false_iff, ne_eq, ot];rintro ⟨x, hx, _, h1⟩;have := h x hx;omega
theorem wA : ∀ {a b : ag}, Canon a → Canon b → (∀ r, 0 ≤ r → r ≤ 1114111 → bn a r = bn b r) → a = b := by
 intro a;induction a with
 | nil =>
  intro b _ hb h;cases b with
  | nil => rfl
  | cons y b =>
   have hy := hb.each y List.mem_cons_self;have := h y.1 (by omega) (by omega);rw [b6] at this;simp [bn, hy.2.1] at this
 | cons x a ih =>
  intro b ha hb h;have hx := ha.each x List.mem_cons_self;cases b with
  | nil =>
   have := h x.1 (by omega) (by omega);rw [b6] at this;simp [bn, hx.2.1] at this
  | cons y b =>
   have hy := hb.each y List.mem_cons_self;have la := ha.low;have lb := hb.low;have h1 : ¬ x.1 < y.1 := fun hl => by
    have := h x.1 (by omega) (by omega);rw [b6, b6, dB (s := b) (m := y.2 + 1) lb (by omega)] at this;simp [hx.2.1] at this;omega
   have h2 : ¬ y.1 < x.1 := fun hl => by
    have := h y.1 (by omega) (by omega);rw [b6, b6, dB (s := a) (m := x.2 + 1) la (by omega)] at this;simp [hy.2.1] at this;omega
   have h3 : ¬ x.2 < y.2 := fun hl => by
    have := h (x.2 + 1) (by omega) (by omega);rw [b6, b6, dB (s := a) (m := x.2 + 1) la (by omega), dB (s := b) (m := y.2 + 1) lb (by omega), decide_eq_false (p := x.2 + 1 ≤ x.2) (by omega), decide_eq_true (p := y.1 ≤ x.2 + 1) (by omega), decide_eq_true (p := x.2 + 1 ≤ y.2) (by omega)] at this;simp at this
   have h4 : ¬ y.2 < x.2 := fun hl => by
    have := h (y.2 + 1) (by omega) (by omega);rw [b6, b6, dB (s := b) (m := y.2 + 1) lb (by omega), dB (s := a) (m := x.2 + 1) la (by omega), decide_eq_false (p := y.2 + 1 ≤ y.2) (by omega), decide_eq_true (p := x.1 ≤ y.2 + 1) (by omega), decide_eq_true (p := y.2 + 1 ≤ x.2) (by omega)] at this;simp at this
   obtain ⟨xl, xh⟩ := x;obtain ⟨yl, yh⟩ := y;dsimp only at *;obtain rfl : xl = yl := (by omega);obtain rfl : xh = yh := (by omega);rw [ih ha.tail hb.tail fun r SV uP => ?_];by_cases hr : r ≤ xh
   ·rw [dB (s := a) (m := xh + 1) la (by omega), dB (s := b) (m := xh + 1) lb (by omega)]
   have := h r SV uP;rw [b6, b6] at this;simpa [hr] using this
def nY (acc : ag) (low high : Int) : ag :=
  match acc.getLast? with
  | some x => if x.2 + 1 = low then acc.dropLast ++ [(x.1, high)] else acc ++ [(low, high)]
  | none => acc ++ [(low, high)]
theorem uE (low high : Int) : nY [] low high = [(low, high)] := rfl
theorem rj (i : ag) (x : Int × Int) (low high : Int) : nY (i ++ [x]) low high = if x.2 + 1 = low then i ++ [(x.1, high)] else i ++ [x] ++ [(low, high)] := by
 unfold nY;simp
theorem kB {i : ag} {x : Int × Int} (hi : Canon i) (hx : 0 ≤ x.1 ∧ x.1 ≤ x.2 ∧ x.2 ≤ 1114111) (h : ∀ y ∈ i, y.2 + 1 < x.1) : Canon (i ++ [x]) := by
 refine ⟨fun y hy => ?_, ?_⟩
 ·rcases List.mem_append.1 hy with hy | hy;exact hi.each y hy;rw [List.mem_singleton.1 hy]; exact hx
 rw [List.pairwise_append];exact ⟨hi.rise, List.pairwise_singleton _ _, fun a ha b hb => by rw [List.mem_singleton.1 hb]; exact h a ha⟩
theorem qU {i : ag} {x : Int × Int} (h : Canon (i ++ [x])) : Canon i ∧ (0 ≤ x.1 ∧ x.1 ≤ x.2 ∧ x.2 ≤ 1114111) ∧ ∀ y ∈ i, y.2 + 1 < x.1 := by
 have hr := List.pairwise_append.1 h.rise;exact ⟨⟨fun y hy => h.each y (by simp [hy]), hr.1⟩, h.each x (by simp), fun y hy => hr.2.2 y hy x (by simp)⟩
theorem zZ {acc : ag} {low high : Int} (h : Canon acc) (hl : ∀ x ∈ acc, x.2 < low) (h0 : 0 ≤ low) (h1 : low ≤ high) (h2 : high ≤ 1114111) :
    Canon (nY acc low high) ∧ (∀ x ∈ nY acc low high, x.2 ≤ high) ∧ ∀ r, bn (nY acc low high) r = (bn acc r || (decide (low ≤ r) && decide (r ≤ high))) := by
 rcases List.eq_nil_or_concat acc with rfl | ⟨i, x, rfl⟩
 ·rw [uE];exact ⟨⟨by simp; omega, List.pairwise_singleton _ _⟩, by simp, fun r => by simp [bn]⟩
 rw [List.concat_eq_append] at h hl ⊢;obtain ⟨hi, hx, Od⟩ := qU h;have hxl := hl x (by simp);rw [rj];by_cases he : x.2 + 1 = low
 ·rw [if_pos he];refine ⟨kB hi ⟨hx.1, by simp only; omega, h2⟩ Od, fun y hy => ?_, fun r => ?_⟩
  ·rcases List.mem_append.1 hy with hy | hy
   ·have := hl y (by simp [hy]); omega
   rw [List.mem_singleton.1 hy]; exact Int.le_refl _
  rw [dw, dw, Bool.or_assoc];congr 1;simp only [bn, List.any_cons, List.any_nil, Bool.or_false];rw [Bool.eq_iff_iff];simp;omega
 rw [if_neg he];refine ⟨kB h ⟨h0, h1, h2⟩ (fun y hy => ?_), fun y hy => ?_, fun r => ?_⟩
 ·simp only;rcases List.mem_append.1 hy with hy | hy
  ·have := Od y hy; omega
  rw [List.mem_singleton.1 hy]; omega
 ·rcases List.mem_append.1 hy with hy | hy
  ·have := hl y hy; omega
  rw [List.mem_singleton.1 hy]; exact Int.le_refl _
 rw [dw];congr 1;simp [bn]
def bx (E : List Int) (h : Int → Bool) : Nat → ag
  | 0 => []
  | j + 1 => match E[j]? with | none => bx E h j | some a => if h a = true then nY (bx E h j) a (fJ E j) else bx E h j
theorem ji {E : List Int} {h : Int → Bool} {j : Nat} {a : Int} (ha : E[j]? = some a) : bx E h (j + 1) = if h a = true then nY (bx E h j) a (fJ E j) else bx E h j := by
 rw [bx, ha]
def f7 (E : List Int) (h : Int → Bool) : ag × Int := if 200 < (bx E h E.length).length then ([], 5) else (bx E h E.length, 0)
structure iP (E : List Int) (h : Int → Bool) : Prop where
  rise : E.Pairwise (· < ·)
  zero : E[0]? = some 0
  top : ∀ x ∈ E, x ≤ 1114111
  const : ∀ j a r, E[j]? = some a → a ≤ r → r ≤ fJ E j → h r = h a
theorem Ed {E : List Int} {h : Int → Bool} (hE : iP E h) {j : Nat} {a : Int} (ha : E[j]? = some a) : 0 ≤ a ∧ a ≤ fJ E j ∧ fJ E j ≤ 1114111 ∧ fJ E j + 1 = (E[j + 1]?).getD 1114112 := by
 have h0 : 0 ≤ a := by
  rcases Nat.eq_zero_or_pos j with rfl | hj
  ·rw [hE.zero] at ha; obtain rfl := Option.some.inj ha; exact Int.le_refl _
  have := lW hE.rise hE.zero ha hj; omega
 have ht := hE.top a (List.mem_of_getElem? ha);unfold fJ;cases he : E[j + 1]? with
 | none => simp; omega
 | some y =>
  have h1 := lW hE.rise ha he (Nat.lt_succ_self j);have h2 := hE.top y (List.mem_of_getElem? he);simp only [Option.getD_some];omega
theorem sL {E : List Int} {h : Int → Bool} (hE : iP E h) : ∀ j, j ≤ E.length →
    Canon (bx E h j) ∧ (∀ x ∈ bx E h j, x.2 < (E[j]?).getD 1114112) ∧ ∀ r, 0 ≤ r → r < (E[j]?).getD 1114112 → bn (bx E h j) r = h r := by
 intro j;induction j with
 | zero => exact fun _ => ⟨Canon.nil, by simp [bx], fun r h0 h1 => by rw [hE.zero] at h1; simp at h1; omega⟩
 | succ j ih =>
  intro hj;obtain ⟨a, ha⟩ : ∃ a, E[j]? = some a := ⟨_, List.getElem?_eq_getElem (by omega)⟩;obtain ⟨i1, i2, i3⟩ := ih (by omega);rw [ha, Option.getD_some] at i2 i3;obtain ⟨g0, g1, g2, g3⟩ := Ed hE ha;rw [ji ha, ← g3];by_cases hh : h a = true
  ·rw [if_pos hh];obtain ⟨s1, s2, s3⟩ := zZ i1 i2 g0 g1 g2;refine ⟨s1, fun x hx => by have := s2 x hx; omega, fun r h0 h1 => ?_⟩;rw [s3];by_cases hr : r < a
   ·rw [i3 r h0 hr]; simp; omega
   rw [hE.const j a r ha (by omega) (by omega), hh];simp; right; omega
  rw [if_neg hh];refine ⟨i1, fun x hx => by have := i2 x hx; omega, fun r h0 h1 => ?_⟩;by_cases hr : r < a;exact i3 r h0 hr;rw [hE.const j a r ha (by omega) (by omega), Cg i2 (by omega)];simpa using hh
theorem ur {E : List Int} {h : Int → Bool} (hE : iP E h) : Canon (bx E h E.length) ∧ ∀ r, 0 ≤ r → r ≤ 1114111 → bn (bx E h E.length) r = h r := by
 obtain ⟨h1, _, h3⟩ := sL hE E.length (Nat.le_refl _);rw [List.getElem?_eq_none (Nat.le_refl _), Option.getD_none] at h3;exact ⟨h1, fun r a b => h3 r a (by omega)⟩
theorem xZ {E : List Int} {h : Int → Bool} (hE : iP E h) {s : ag} (hs : Canon s) (hh : ∀ r, 0 ≤ r → r ≤ 1114111 → bn s r = h r) : f7 E h = if 200 < s.length then ([], 5) else (s, 0) := by
 obtain ⟨b1, b2⟩ := ur hE;have : bx E h E.length = s := wA b1 hs fun r h0 h1 => (by rw [b2 r h0 h1, hh r h0 h1]);unfold f7;rw [this]
theorem gw (L : List ag) (x : Int) : x ∈ bG L ↔ x = 0 ∨ (x ∈ L.flatMap dG ∧ x ≤ 1114111) := by
 unfold bG;rw [yj];simp
theorem jP (L : List ag) : (bG L).Pairwise (· < ·) := wu _ _ (by simp)
theorem vK {L : List ag} {j : Nat} {a : Int} (hj : (bG L)[j]? = some a) : ∀ r, a ≤ r → r ≤ fJ (bG L) j → ∀ e ∈ L.flatMap dG, ¬ (a < e ∧ e ≤ r) := by
 intro r h1 h2 e he ⟨h3, h4⟩;have Hu := jP L;by_cases hm : e ≤ 1114111
 ·obtain ⟨k, hk⟩ := List.mem_iff_getElem?.1 ((gw L e).2 (.inr ⟨he, hm⟩));have yM : j < k := by
   rcases Nat.lt_or_ge j k with h | h;exact h;rcases Nat.lt_or_ge k j with h' | h'
   ·have := lW Hu hk hj h'; omega
   obtain rfl : j = k := (by omega);rw [hk] at hj; injection hj; omega
  obtain ⟨y, hy⟩ : ∃ y, (bG L)[j + 1]? = some y := ⟨_, List.getElem?_eq_getElem (by have := (List.getElem?_eq_some_iff.1 hk).1; omega)⟩;unfold fJ at h2;rw [hy] at h2;simp only at h2;rcases Nat.lt_or_ge (j + 1) k with h | h
  ·have := lW Hu hy hk h; omega
  obtain rfl : k = j + 1 := (by omega);rw [hy] at hk; injection hk; omega
 unfold fJ at h2;split at h2
 ·rename_i y hy;have := (gw L y).1 (List.mem_of_getElem? hy);omega
 omega
theorem uc {L : List ag} (h : ∀ s ∈ L, aK s) : (bG L)[0]? = some 0 := by
 obtain ⟨k, hk⟩ := List.mem_iff_getElem?.1 ((gw L 0).2 (.inl rfl));obtain ⟨y, hy⟩ : ∃ y, (bG L)[0]? = some y := ⟨_, List.getElem?_eq_getElem (by have := (List.getElem?_eq_some_iff.1 hk).1; omega)⟩;have h0 : 0 ≤ y := by
  rcases (gw L y).1 (List.mem_of_getElem? hy) with rfl | ⟨h1, _⟩;exact Int.le_refl _;obtain ⟨s, hs, he⟩ := List.mem_flatMap.1 h1;unfold dG at he;obtain ⟨x, hx, he⟩ := List.mem_flatMap.1 he;have := (h s hs).each x hx;simp at he;omega
 rcases Nat.eq_zero_or_pos k with rfl | Cr;exact hk;have := lW (jP L) hy hk Cr;omega
theorem jV {L : List ag} (hL : ∀ s ∈ L, aK s) {h : Int → Bool} (hc : ∀ a r, (∀ s ∈ L, bn s r = bn s a) → h r = h a) : iP (bG L) h where
  rise := jP L
  zero := uc hL
  top := fun x hx => by rcases (gw L x).1 hx with rfl | ⟨_, h⟩ <;> omega
  const := fun j a r hj h1 h2 => hc a r fun s hs => zS h1 fun e he => vK hj r h1 h2 e (List.mem_flatMap.2 ⟨s, hs, he⟩)
def eu (op : Int) (a b : ag) (r : Int) : Bool := (decide (op = 124) && (bn a r || bn b r)) || ((decide (op = 38) && bn a r && bn b r) || (decide (op = 45) && bn a r && !bn b r))
def gS (op : Int) (a b : ag) : ag × Int :=
  if cU a ≠ 0 then ([], cU a) else if op = 94 then f7 (bG [a]) (fun r => !bn a r)
  else if cU b ≠ 0 then ([], cU b) else f7 (bG [a, b]) (eu op a b)
theorem eX {s : ag} (h : aK s) : cU s = 0 := by
 unfold cU;rw [if_neg (by have := h.size; omega)];have : ∀ (s : ag) (prev : Option Int), Canon s → (∀ p, prev = some p → ∀ x ∈ s, p + 1 < x.1) → fq prev s = 0 := by
  intro s;induction s with
  | nil => intro prev _ _; rfl
  | cons x s ih =>
   intro prev hc hp;obtain ⟨a, b⟩ := x;have he := hc.each (a, b) List.mem_cons_self;dsimp only at he;rw [fq, if_neg (by omega)];have ht : ov prev a = false := by
    cases prev with
    | none => rfl
    | some p => have := hp p rfl (a, b) List.mem_cons_self; simp [ov]; omega
   rw [ht, if_neg (by decide)];exact ih _ hc.tail fun p Tg y hy => by
    obtain rfl := Option.some.inj Tg;exact hc.low y hy
 exact this s none h.canon (fun p hp => by cases hp)
theorem IQ {a s : ag} (ha : aK a) (hs : Canon s) (hh : ∀ r, 0 ≤ r → r ≤ 1114111 → bn s r = !bn a r) (b : ag) : gS 94 a b = if 200 < s.length then ([], 5) else (s, 0) := by
 unfold gS;rw [if_neg (by rw [eX ha]; decide), if_pos rfl];exact xZ (jV (by simpa using ha) (fun x r h => by rw [h a (by simp)])) hs hh
theorem C6 {op : Int} {a b s : ag} (gR : op ≠ 94) (ha : aK a) (hb : aK b) (hs : Canon s) (hh : ∀ r, 0 ≤ r → r ≤ 1114111 → bn s r = eu op a b r) : gS op a b = if 200 < s.length then ([], 5) else (s, 0) := by
 unfold gS;rw [if_neg (by rw [eX ha]; decide), if_neg gR, if_neg (by rw [eX hb]; decide)];exact xZ (jV (by simpa using ⟨ha, hb⟩) (fun x r h => by unfold eu; rw [h a (by simp), h b (by simp)])) hs hh
theorem pM (E : List Int) (h : Int → Bool) (hE : iP E h) : aK (f7 E h).1 := by
 unfold f7;by_cases hl : 200 < (bx E h E.length).length
 ·rw [if_pos hl]; exact ⟨Nat.zero_le _, by simp, List.Pairwise.nil⟩
 rw [if_neg hl]; exact (ur hE).1.right (by omega)
theorem fI (op : Int) {a b : ag} (ha : aK a) (hb : aK b) : aK (gS op a b).1 := by
 unfold gS;rw [if_neg (by rw [eX ha]; decide)];by_cases gR : op = 94
 ·rw [if_pos gR]; exact pM _ _ (jV (by simpa using ha) (fun x r h => by rw [h a (by simp)]))
 rw [if_neg gR, if_neg (by rw [eX hb]; decide)];exact pM _ _ (jV (by simpa using ⟨ha, hb⟩) (fun x r h => by unfold eu; rw [h a (by simp), h b (by simp)]))
def pk (L : List Int) (i : Nat) : Int := (L[i]?).getD (-1)
def jq (r : Int) : Bool := decide (r = 32) || (decide (r = 9) || decide (r = 10))
def jZ : List Int := [91, 93, 38, 45, 94, 92, 58, 36, 40, 41, 123, 125, 60, 62, 124, 59, 35, 39, 34, 61, 44]
def bL (r : Int) : Bool := decide (0 ≤ r) && (!jq r && !jZ.contains r)
def ct (r : Int) : Bool := (decide (48 ≤ r) && decide (r ≤ 57)) || ((decide (97 ≤ r) && decide (r ≤ 102)) || (decide (65 ≤ r) && decide (r ≤ 70)))
def iE (r : Int) : Int := if r ≤ 57 then r - 48 else if 97 ≤ r then r - 87 else r - 55
def rJ (r : Int) : Bool := (decide (48 ≤ r) && decide (r ≤ 57)) || ((decide (97 ≤ r) && decide (r ≤ 122)) || (decide (65 ≤ r) && decide (r ≤ 90)))
def aq (p : Int → Bool) (L : List Int) (i : Nat) : Nat := i + ((L.drop i).takeWhile p).length
def aG (L : List Int) (i : Nat) : Nat := aq jq L i
def ay (L : List Int) (i j : Nat) : List Int := (L.drop i).take (j - i)
abbrev fH (α : Type) := Except (Int × Nat) (α × Nat)
def aH (L : List Int) (i : Nat) (r : Int) : Except (Int × Nat) Nat := if pk L i = r then .ok (i + 1) else .error (2, i)
def dg (ds : List Int) : Int := ds.foldl (fun x d => 16 * x + iE d) 0
def gp (L : List Int) (i : Nat) : fH Int :=
  match aH L (i + 1) 123 with
  | .error e => .error e
  | .ok a =>
    if aq ct L a - a < 1 ∨ 6 < aq ct L a - a then .error (2, a)
    else match aH L (aq ct L a) 125 with
      | .error e => .error e
      | .ok j => if 1114111 < dg (ay L a (aq ct L a)) then .error (3, i) else .ok (dg (ay L a (aq ct L a)), j)
def bU (L : List Int) (i : Nat) : fH Int :=
  if bL (pk L i) = true then .ok (pk L i, i + 1)
  else if pk L i ≠ 92 then .error (2, i)
  else if pk L (i + 1) = 110 then .ok (10, i + 2)
  else if pk L (i + 1) = 116 then .ok (9, i + 2)
  else if pk L (i + 1) = 117 then gp L (i + 1)
  else if pk L (i + 1) < 0 ∨ rJ (pk L (i + 1)) = true then .error (2, i + 1)
  else .ok (pk L (i + 1), i + 2)
def iw (L : List Int) (i : Nat) : fH (Int × Int) :=
  match bU L i with
  | .error e => .error e
  | .ok (low, j) =>
    if pk L j = 45 ∧ pk L (j + 1) ≠ 91 then
      match bU L (j + 1) with
      | .error e => .error e
      | .ok (high, k) => if high < low then .error (3, j + 1) else .ok ((low, high), k)
    else .ok ((low, low), j)
def eO (n : List Int) : Option ag :=
  if n = [100, 105, 103, 105, 116] then some [(48, 57)]
  else if n = [108, 111, 119, 101, 114] then some [(97, 122), (223, 246), (248, 255)]
  else if n = [117, 112, 112, 101, 114] then some [(65, 90), (192, 214), (216, 222)]
  else if n = [108, 101, 116, 116, 101, 114] then some [(65, 90), (97, 122), (192, 214), (216, 246), (248, 255)]
  else if n = [118, 111, 119, 101, 108] then some [(65, 65), (69, 69), (73, 73), (79, 79), (85, 85), (97, 97), (101, 101), (105, 105), (111, 111), (117, 117)]
  else if n = [103, 114, 101, 101, 107] then some [(880, 1023)]
  else if n = [99, 121, 114, 105, 108, 108, 105, 99] then some [(1024, 1279)]
  else if n = [115, 112, 97, 99, 101] then some [(9, 10), (32, 32)]
  else if n = [97, 110, 121] then some [(0, 1114111)]
  else none
def dN (L : List Int) (i : Nat) : fH ag :=
  match eO (ay L (i + 2) (aq bL L (i + 2))) with
  | none => .error (7, i + 2)
  | some s =>
    match aH L (aq bL L (i + 2)) 58 with
    | .error e => .error e
    | .ok j => match aH L j 93 with
      | .error e => .error e
      | .ok k => .ok (s, k)
def kT (r : Int) : Int := if r = 38 ∨ r = 45 then r else 124
def bZ (inner : Nat → fH ag) (L : List Int) (i : Nat) : fH ag :=
  if pk L i = 91 ∧ pk L (i + 1) = 58 then dN L i
  else if pk L i = 91 then inner i
  else if pk L i = 38 ∨ pk L i = 45 then inner (aG L (i + 1))
  else match iw L i with
    | .error e => .error e
    | .ok (x, j) => .ok ([x], j)
def cH (inner : Nat → fH ag) (L : List Int) : Nat → Nat → ag → fH ag
  | 0, i, _ => .error (2, i)
  | f + 1, i, cur =>
    if pk L (aG L i) = 93 then .ok (cur, aG L i + 1)
    else match bZ inner L (aG L i) with
      | .error e => .error e
      | .ok (s, j) =>
        if (gS (kT (pk L (aG L i))) cur s).2 ≠ 0 then .error ((gS (kT (pk L (aG L i))) cur s).2, j)
        else cH inner L f j (gS (kT (pk L (aG L i))) cur s).1
def aR (L : List Int) : Nat → Nat → fH ag
  | 0, i => .error (if pk L i = 91 then 4 else 2, i)
  | n + 1, i =>
    match aH L i 91 with
    | .error e => .error e
    | .ok j =>
      match cH (aR L n) L (L.length + 1) (if pk L j = 94 then j + 1 else j) [] with
      | .error e => .error e
      | .ok (cur, k) =>
        if pk L j = 94 then (if (gS 94 cur []).2 ≠ 0 then .error ((gS 94 cur []).2, k) else .ok ((gS 94 cur []).1, k))
        else .ok (cur, k)
theorem aS {L : List Int} {i : Nat} (h : pk L i ≠ -1) : i < L.length := by
 unfold pk at h;rcases Nat.lt_or_ge i L.length with hl | hl;exact hl;rw [List.getElem?_eq_none hl] at h; exact absurd rfl h
theorem uh {L : List Int} {i : Nat} {r : Int} (h : L[i]? = some r) : pk L i = r := by unfold pk; rw [h]; rfl
theorem lP {L : List Int} {i : Nat} (h : L.length ≤ i) : pk L i = -1 := by unfold pk; rw [List.getElem?_eq_none h]; rfl
theorem bD {p : Int → Bool} {L : List Int} {i : Nat} (h : i < L.length) (hp : p (pk L i) = true) : aq p L i = aq p L (i + 1) := by
 unfold aq;rw [List.drop_eq_getElem_cons h, List.takeWhile_cons];have : pk L i = L[i] := uh (List.getElem?_eq_getElem h);rw [this] at hp;rw [hp];simp;omega
theorem bw {p : Int → Bool} {L : List Int} {i : Nat} (h : i < L.length → p (pk L i) = false) : aq p L i = i := by
 unfold aq;rcases Nat.lt_or_ge i L.length with hl | hl
 ·rw [List.drop_eq_getElem_cons hl, List.takeWhile_cons];have : pk L i = L[i] := uh (List.getElem?_eq_getElem hl);have h2 := h hl;rw [this] at h2;rw [h2];simp
 rw [List.drop_of_length_le hl]; simp
theorem dA {p : Int → Bool} {L : List Int} {i : Nat} (h : i ≤ L.length) : i ≤ aq p L i ∧ aq p L i ≤ L.length := by
 unfold aq;have := (List.takeWhile_sublist p (l := L.drop i)).length_le;rw [List.length_drop] at this;omega
end Go.Proofs.YthnhbcohfoodlaaGreatDoor
