/- RuleFoot + SetNot + ConcatS + ItemOk + BareD -/
import Derived.Test.YthnhbcohfoodlaaGreatDoorZq4
import Derived.Test.YthnhbcohfoodlaaGreatDoorZq7
import Derived.Test.YthnhbcohfoodlaaGreatDoorZq6
import Derived.Test.YthnhbcohfoodlaaGreatDoorZq3
import Derived.Deep.Strs
import Derived.Test.YthnhbcohfoodlaaGreatDoorZq9
import Derived.BigRegion
import Derived.Lib.AppendZeros
import Derived.Lib.SliceRun
import Derived.Test.YthnhbcohfoodlaaGreatDoorZq11
import Derived.Test.YthnhbcohfoodlaaGreatDoorZq10
set_option maxHeartbeats 1600000
set_option maxRecDepth 100000
namespace Go.Proofs.YthnhbcohfoodlaaGreatDoor
open Go.RowKit
def di (w : World) (X : Nat → Prop) (sz : Nat) (A : Option Addr) (n : Nat) (xs : List Value) : Prop :=
  xs.length = n * sz ∧ (0 < n → ∃ b off, A = some ⟨b, off, none⟩ ∧ X b ∧ b < w.heap.size ∧ ∀ j u, xs[j]? = some u → w.cell? ⟨b, off + j, none⟩ = some u)
def aC (w : World) (X : Nat → Prop) (w' : World) (X' : Nat → Prop) : Prop := ∀ b, X b → b < w.heap.size → w'.heap[b]? = w.heap[b]? ∧ X' b ∧ b < w'.heap.size
section
variable {w w' w2 : World} {X X' X2 : Nat → Prop} {sz n : Nat} {A : Option Addr} {xs : List Value}
theorem aC.refl (h : ∀ b, X b → X' b) : aC w X w X' := fun b hb hl => ⟨rfl, h b hb, hl⟩
theorem aC.trans (h : aC w X w' X') (h2 : aC w' X' w2 X2) : aC w X w2 X2 := fun b hb hl =>
  let ⟨e, hx, hl'⟩ := h b hb hl
  let ⟨e2, I4, o7⟩ := h2 b hx hl'
  ⟨e2.trans e, I4, o7⟩
theorem aC.below (hb : Below w.heap.size w w') (h : ∀ b, X b → b < w.heap.size → X' b) : aC w X w' X' := fun b hx hl => ⟨hb.block b hl, h b hx hl, Nat.lt_of_lt_of_le hl hb.size⟩
theorem aC.alloc (o : Obj) (h : ∀ b, X b → b < w.heap.size → X' b) : aC w X (w.alloc o) X' := fun b hx hl => ⟨heap_alloc_old w o hl, h b hx hl, by simp; omega⟩
theorem aC.app {base n : Nat} {e : TypeId} {v v' : Value} (ha : b9 base e sz v w n xs v' w') (hX : ∀ b, X b → v.ownBlock ≠ some b) (h : ∀ b, X b → b < w.heap.size → X' b) : aC w X w' X' :=
  fun b hx hl => ⟨ha.2.1.block b hl (fun e => hX b hx e.symm), h b hx hl, Nat.lt_of_lt_of_le hl ha.2.1.size⟩
theorem aC.setCell {p : Addr} (u : Value) (hX : ∀ b, X b → b ≠ p.block) (h : ∀ b, X b → b < w.heap.size → X' b) : aC w X (w.setCell p u) X' :=
  fun b hx hl => ⟨Below.heap_setCell _ _ _ _ (hX b hx), h b hx hl, by simpa using hl⟩
theorem di.keep (hk : aC w X w' X') (h : di w X sz A n xs) : di w' X' sz A n xs := by
 refine ⟨h.1, fun hn => ?_⟩;obtain ⟨b, off, e, hx, hl, hc⟩ := h.2 hn;obtain ⟨he, hx', hl'⟩ := hk b hx hl;exact ⟨b, off, e, hx', hl', fun j u hu => (World.cell?_of_block (w := w) he).trans (hc j u hu)⟩
theorem di.rd {B : Nat} (h : di w X sz A n xs) (hB : ∀ b, X b → b < w.heap.size → b < B) : Rd w B sz A n xs :=
  ⟨h.1, fun hn => let ⟨b, off, e, hx, hl, hc⟩ := h.2 hn; ⟨b, off, e, hB b hx hl, hc⟩⟩
theorem di.kO {B : Nat} (h : Rd w B sz A n xs) (hB : B ≤ w.heap.size) (hX : ∀ b, b < B → X b) : di w X sz A n xs :=
  ⟨h.1, fun hn => let ⟨b, off, e, hb, hc⟩ := h.2 hn; ⟨b, off, e, hX b hb, Nat.lt_of_lt_of_le hb hB, hc⟩⟩
theorem di.fk {base c : Nat} {e : TypeId} (h : w.ownsRow base e sz (.slice A n c) n xs) (hX : ∀ b, (Value.slice A n c).ownBlock = some b → X b) : di w X sz A n xs := by
 refine ⟨h.1, fun hn => ?_⟩;rcases h.2 with ⟨hv, h0⟩ | ⟨g, cap, cur, hv, hg, hh, hr⟩;omega;injection hv with hA;subst hA;refine ⟨g, 0, rfl, hX g rfl, (Array.getElem?_eq_some_iff.1 hh).1, fun j u hu => ?_⟩;have := World.ownsRow.cells h (g := g) rfl j u hu;rwa [rN] at this
theorem di.new (t : TypeId) (cs : List Value) (hl : cs.length = n * sz) (hX : X w.heap.size) : di (w.alloc (.cells cs.toArray t)) X sz (some ⟨w.heap.size, 0, none⟩) n cs := by
 refine ⟨hl, fun _ => ⟨_, _, rfl, hX, by simp, fun j u hu => ?_⟩⟩;rw [(aM.new w t cs.toArray).cell, Nat.zero_add];simpa using hu
end
def eE {α : Type} (R : α → List Value → Prop) (w : World) (X : Nat → Prop) (sz : Nat) (A : Option Addr) (n : Nat) (l : List α) : Prop :=
  ∃ css : List (List Value), l.length = n ∧ css.length = n ∧ (∀ (i : Nat) (a : α) (cs : List Value), l[i]? = some a → css[i]? = some cs → R a cs) ∧ (∀ cs ∈ css, cs.length = sz) ∧ di w X sz A n css.flatten
theorem eE.len {α : Type} {R : α → List Value → Prop} {w : World} {X : Nat → Prop} {sz n : Nat} {A : Option Addr} {l : List α} (h : eE R w X sz A n l) : l.length = n := by
 obtain ⟨_, h1, _⟩ := h;exact h1
theorem eE.keep {α : Type} {R R' : α → List Value → Prop} {w w' : World} {X X' : Nat → Prop} {sz n : Nat} {A : Option Addr} {l : List α} (hk : aC w X w' X') (hR : ∀ a cs, R a cs → R' a cs) (h : eE R w X sz A n l) : eE R' w' X' sz A n l := by
 obtain ⟨css, h1, h2, h3, h4, h5⟩ := h;exact ⟨css, h1, h2, fun i a cs ha hc => hR a cs (h3 i a cs ha hc), h4, h5.keep hk⟩
theorem eE.at {α : Type} {R : α → List Value → Prop} {w : World} {X : Nat → Prop} {sz n : Nat} {A : Option Addr} {l : List α} (h : eE R w X sz A n l) {k : Nat} {a : α} (hk : l[k]? = some a) :
    ∃ (b off : Nat) (cs : List Value), A = some ⟨b, off, none⟩ ∧ X b ∧ b < w.heap.size ∧ R a cs ∧ cs.length = sz ∧ ∀ j u, cs[j]? = some u → w.cell? ⟨b, off + k * sz + j, none⟩ = some u := by
 obtain ⟨css, h1, h2, h3, h4, h5, h6⟩ := h;have hlt : k < l.length := (List.getElem?_eq_some_iff.1 hk).1;obtain ⟨b, off, e, hx, hb, hc⟩ := h6 (by omega);obtain ⟨cs, hcs⟩ : ∃ cs, css[k]? = some cs := ⟨_, List.getElem?_eq_getElem (by omega)⟩;refine ⟨b, off, cs, e, hx, hb, h3 k a cs hk hcs, h4 cs (List.mem_of_getElem? hcs), fun j u hu => ?_⟩;rw [Nat.add_assoc];exact hc _ _ (pK h4 k cs hcs j u hu)
def f5 {α : Type} (R : α → List Value → Prop) (T : TypeId) (sz : Nat) (w : World) (base : Nat) (v : Value) (l : List α) : Prop :=
  ∃ css : List (List Value), css.length = l.length ∧ (∀ (i : Nat) (a : α) (cs : List Value), l[i]? = some a → css[i]? = some cs → R a cs) ∧ (∀ cs ∈ css, cs.length = sz) ∧ w.ownsRow base T sz v l.length css.flatten
section
variable {α : Type} {R R' : α → List Value → Prop} {T : TypeId} {sz base : Nat} {w w' : World} {v v' : Value} {l : List α}
theorem f5.nil (w : World) (base : Nat) : f5 R T sz w base (.slice none 0 0) [] := ⟨[], rfl, by simp, by simp, World.ownsRow_nil _ _ _ _⟩
theorem f5.form (h : f5 R T sz w base v l) : ∃ A c, v = .slice A l.length c ∧ l.length ≤ c := by
 obtain ⟨_, _, _, _, h4⟩ := h;exact aP h4
theorem f5.weak (hR : ∀ a cs, R a cs → R' a cs) (h : f5 R T sz w base v l) : f5 R' T sz w base v l := by
 obtain ⟨css, h1, h2, h3, h4⟩ := h;exact ⟨css, h1, fun i a cs ha hc => hR a cs (h2 i a cs ha hc), h3, h4⟩
theorem f5.kept (hw : ∀ n xs, w.ownsRow base T sz v n xs → w'.ownsRow base T sz v n xs) (hR : ∀ a cs, R a cs → R' a cs) (h : f5 R T sz w base v l) : f5 R' T sz w' base v l := by
 obtain ⟨css, h1, h2, h3, h4⟩ := h;exact ⟨css, h1, fun i a cs ha hc => hR a cs (h2 i a cs ha hc), h3, hw _ _ h4⟩
theorem f5.done {A : Option Addr} {c : Nat} {X : Nat → Prop} (h : f5 R T sz w base (.slice A l.length c) l) (hR : ∀ a cs, R a cs → R' a cs) (hX : ∀ b, (Value.slice A l.length c).ownBlock = some b → X b) : eE R' w X sz A l.length l := by
 obtain ⟨css, h1, h2, h3, h4⟩ := h;exact ⟨css, rfl, h1, fun i a cs ha hc => hR a cs (h2 i a cs ha hc), h3, di.fk h4 hX⟩
end
theorem f5.push {α : Type} {R R' : α → List Value → Prop} {T : TypeId} {sz base : Nat} {w w' : World} {v v' : Value} {l : List α} {css : List (List Value)} {a : α} {cs : List Value}
    (h1 : css.length = l.length) (h2 : ∀ (i : Nat) (a : α) (cs : List Value), l[i]? = some a → css[i]? = some cs → R a cs) (h3 : ∀ cs ∈ css, cs.length = sz)
    (hR : ∀ a cs, R a cs → R' a cs) (ha : R' a cs) (hcs : cs.length = sz) (an : b9 base T sz v w (l.length + 1) (css.flatten ++ cs) v' w') : f5 R' T sz w' base v' (l ++ [a]) := by
 refine ⟨css ++ [cs], by simp [h1], ?_, ?_, ?_⟩
 ·intro i x ds hx hd;rcases Nat.lt_or_ge i l.length with hi | hi
  ·rw [List.getElem?_append_left hi] at hx;rw [List.getElem?_append_left (by omega)] at hd;exact hR x ds (h2 i x ds hx hd)
  rw [List.getElem?_append_right hi] at hx;rw [List.getElem?_append_right (by omega), h1] at hd;have hi0 : i - l.length = 0 := by
   have := (List.getElem?_eq_some_iff.1 hx).1;simp at this;omega
  rw [hi0] at hx hd;simp at hx hd;subst hx hd;exact ha
 ·intro ds hd;rcases List.mem_append.1 hd with hd | hd;exact h3 ds hd;simp at hd; subst hd; exact hcs
 have e : (css ++ [cs]).flatten = css.flatten ++ cs := (by simp);have e2 : (l ++ [a]).length = l.length + 1 := (by simp);rw [e, e2];exact an.own
def F8 (w : World) (X : Nat → Prop) (s : ag) (u : Value) : Prop := ∃ A n c, u = .slice A n c ∧ di w X 2 A n (ak s) ∧ n ≤ maxLen
def vj (w : World) (X : Nat → Prop) (s : ag) (cs : List Value) : Prop := ∃ u, cs = [u] ∧ F8 w X s u
section
variable {w w' : World} {X X' : Nat → Prop} (hk : aC w X w' X')
include hk
theorem F8.keep {s : ag} {u : Value} (h : F8 w X s u) : F8 w' X' s u := by
 obtain ⟨A, n, c, e, h1, h2⟩ := h;exact ⟨A, n, c, e, h1.keep hk, h2⟩
theorem vj.keep {s : ag} {cs : List Value} (h : vj w X s cs) : vj w' X' s cs := by
 obtain ⟨u, e, h⟩ := h;exact ⟨u, e, h.keep hk⟩
end
theorem eB {wx : World} {v : Value} {base sz n : Nat} {e : TypeId} {xs : List Value} (h : wx.ownsRow base e sz v n xs) {b : Nat} (hb : v.ownBlock = some b) : base ≤ b ∧ b < wx.heap.size := World.ownsRow.lt h b hb
theorem Af {w : World} {lo sz n g i : Nat} {e : TypeId} {v u : Value} {xs : List Value} (h : w.ownsRow lo e sz v n xs) (hg : g < lo) : (w.setCell ⟨g, i, none⟩ u).ownsRow lo e sz v n xs := by
 rcases h.2 with ⟨hv, h0⟩ | ⟨k, cap, cur, hv, h1, h2, h3⟩;exact ⟨h.1, .inl ⟨hv, h0⟩⟩;refine ⟨h.1, .inr ⟨k, cap, cur, hv, h1, ?_, h3⟩⟩;rw [Below.heap_setCell _ _ _ _ (show k ≠ g by omega)];exact h2
def vO (_ : Nat) : Prop := True
theorem aC.any {w w' : World} {X : Nat → Prop} (hb : Below w.heap.size w w') : aC w X w' X := aC.below hb (fun _ h _ => h)
theorem di.of {w : World} {X : Nat → Prop} {sz n : Nat} {A : Option Addr} {xs : List Value} (h : di w X sz A n xs) : Rd w w.heap.size sz A n xs := h.rd (fun _ _ h => h)
theorem AA {w : World} {X : Nat → Prop} {A : Option Addr} {n : Nat} {l : List ag} (h : eE (vj w X) w X 1 A n l) {k : Nat} {s : ag} (hk : l[k]? = some s) :
    ∃ (b off : Nat) (A' : Option Addr) (n' c' : Nat), A = some ⟨b, off, none⟩ ∧ X b ∧ b < w.heap.size ∧ w.cell? ⟨b, off + k, none⟩ = some (.slice A' n' c') ∧ kH w w.heap.size A' n' s ∧ di w X 2 A' n' (ak s) ∧ n' ≤ maxLen := by
 obtain ⟨b, off, cs, e, hx, hb, ⟨u, rfl, A', n', c', rfl, h1, h2⟩, _, hc⟩ := h.at hk;have := hc 0 _ rfl;rw [Nat.mul_one, Nat.add_zero] at this;exact ⟨b, off, A', n', c', e, hx, hb, this, h1.of, h1, h2⟩
def Mo (w : World) (n : Nat) (i : Value) (wr : World) : Prop := ∃ j : Nat, j ≤ n ∧ i = .int .i64 j ∧ Below w.heap.size w wr
theorem rZ (X : Nat → Prop) (L : List ag) (A : Option Addr) (n c : Nat) (w : World) (hn : n ≤ 1000) (hS : ∀ s ∈ L, aK s) (hL : eE (vj w X) w X 1 A n L) :
    Calls Tryz.prog 49 #[.slice A n c] w fun e w' => e = .returned (.int .i64 0) ∧ Below w.heap.size w w' := by
 have cn := Lib.hid (show L.length = n from hL.len);have HL := Lib.hid hL;have HS := Lib.hid hS;clear hL hS;go_enter Tryz.func49, Tryz.ntmps49;go_wp2_with fail;go_loopw [8] (Mo w n) (fun i _ => n - (intOf i).toNat);(case atStart => exact ⟨0, Nat.zero_le _, rfl, Below.refl _ _⟩);obtain ⟨j, hj, rfl, hb⟩ := hrel;by_cases hlt : j < n
 ·obtain ⟨s, hs⟩ : ∃ z, L[j]? = some z := ⟨_, List.getElem?_eq_getElem (by rw [cn.out]; exact hlt)⟩;obtain ⟨b, off, A', n', c', rfl, _, eG, C7, hrd, _, hnn⟩ := AA HL.out hs;have Uk := (hb.cell (p := ⟨b, off + j, none⟩) eG).trans C7;simp only [maxLen] at hnn;have HW := Lib.hid (show Calls Tryz.prog 16 #[.slice A' n' c'] wr fun e w' => e = .returned (.int .i64 0) ∧ Below wr.heap.size wr w' by
   have := kC A' n' c' s wr (by omega) ((Rd.below hrd hb).more hb.size);rwa [eX (HS.out s (List.mem_of_getElem? hs))] at this)
  have HB := Lib.hid hb;clear hs hrd hb C7;go_wp2_with fail;refine HW.out.mono ?_;rintro e w1 ⟨rfl, aT⟩;have b8 := Lib.hid (HB.out.trans (aT.mono HB.out.size));go_wp2_with fail;exact ⟨⟨j + 1, by omega, by go_num, b8.out⟩, by simp [intOf]; omega⟩
 obtain rfl : j = n := (by omega);go_wp2_with fail;go_ret;exact ⟨rfl, hb⟩
theorem lz (A : Option Addr) (n c : Nat) (w : World) :
    Calls Tryz.prog 52 #[.slice A n c] w fun e w' => e = .returned (if 200 < n then .tuple #[.slice none 0 0, .int .i64 5] else .tuple #[.slice A n c, .int .i64 0]) ∧ w' = w := by
 by_cases h : 200 < n
 ·rw [if_pos h];go_enter Tryz.func52, Tryz.ntmps52;go_wp2_with fail;go_ret2;exact ⟨rfl, rfl⟩
 rw [if_neg h];go_enter Tryz.func52, Tryz.ntmps52;go_wp2_with fail;go_ret2;exact ⟨rfl, rfl⟩
def cN (w : World) (s : ag) (m : Nat) (e : Ending) (w' : World) : Prop := ∃ A' n' c', e = .returned (.slice A' n' c') ∧ di w' (fun b => w.heap.size ≤ b) 2 A' n' (ak s) ∧ n' ≤ m ∧ n' ≤ c' ∧ Below w.heap.size w w'
def LY (w : World) (s : ag) (n : Nat) (out a i : Value) (wr : World) : Prop :=
  ∃ (j k : Nat) (x : Int) (acc : ag), j ≤ n ∧ i = .int .i64 j ∧ a = .int .i32 x ∧ 0 ≤ x ∧ x ≤ 1114112 ∧ k ≤ j ∧ wr.ownsRow w.heap.size 74 2 out k (ak acc) ∧ acc.length = k ∧ qV s = acc ++ j9 x (s.drop j) ∧ Below w.heap.size w wr
theorem xw (A : Option Addr) (n c : Nat) (s : ag) (w : World) (hn : n ≤ 200) (hs : aK s) (hl : kH w w.heap.size A n s) :
    Calls Tryz.prog 54 #[.slice A n c] w (cN w (qV s) 201) := by
 obtain ⟨i0, hi, z0, z1, z2⟩ := info_parts gC;have cn := Lib.hid hl.len;have HL := Lib.hid hl;have HS := Lib.hid hs;clear hl hs;go_enter Tryz.func54, Tryz.ntmps54;go_wp2_with fail;go_loopw [3, 4, 9] (LY w s n) (fun _ _ i _ => n - (intOf i).toNat);(case atStart => exact ⟨0, 0, 0, [], Nat.zero_le _, rfl, rfl, by omega, by omega, by omega, World.ownsRow_nil _ _ _ _, rfl, rfl, Below.refl _ _⟩);obtain ⟨j, k, a, acc, hj, rfl, rfl, ha0, kU, hk, hown, hk2, bz, hb⟩ := hrel;have hz := hb.size;have hb0 := hb;obtain ⟨A3, c3, rfl, eC⟩ := aP hown;by_cases hlt : j < n
 ·obtain ⟨⟨x, y⟩, hx⟩ : ∃ z, s[j]? = some z := ⟨_, List.getElem?_eq_getElem (by rw [cn.out]; exact hlt)⟩;obtain ⟨b, off, rfl, eG, c0, c1⟩ := HL.out.at hx;have d0 := (hb.cell (p := ⟨b, off + j * 2, none⟩) eG).trans c0;have d1 := (hb.cell (p := ⟨b, off + j * 2 + 1, none⟩) eG).trans c1;have hxy := HS.out.each (x, y) (List.mem_of_getElem? hx);simp only at hxy;rw [gE hx, j9] at bz;simp only at bz;have HX := Lib.hid hx;have b8 := Lib.hid (hb.alloc hz (.cells #[.int .i32 x, .int .i32 y] 74));have nR := Lib.hid (World.ownsRow.alloc hown (.cells #[.int .i32 x, .int .i32 y] 74));have Kq := Lib.hid hown;have HY := Lib.hid (aM.new wr 74 #[.int .i32 x, .int .i32 y]);clear hx c0 c1 hown hb hb0;by_cases hgt : a < x
  ·rw [if_pos hgt] at bz;have HG := Lib.hid bz;have nB := Lib.hid (World.ownsRow.alloc nR.out (.cells #[.int .i32 a, .int .i32 (x - 1)] 74));have cS := Lib.hid (b8.out.alloc b8.out.size (.cells #[.int .i32 a, .int .i32 (x - 1)] 74));have HN := Lib.hid (show Rd ((wr.alloc (.cells #[.int .i32 x, .int .i32 y] 74)).alloc (.cells #[.int .i32 a, .int .i32 (x - 1)] 74)) (wr.heap.size + 1 + 1) 2 (some ⟨wr.heap.size + 1, 0, none⟩) 1 [.int .i32 a, .int .i32 (x - 1)] by
    have := Rd.new (wr.alloc (.cells #[.int .i32 x, .int .i32 y] 74)) 74 2 1 [.int .i32 a, .int .i32 (x - 1)] rfl;simpa using this)
   clear bz;go_wp2_with (at_builtin; refine av _ rfl (.tmp 17) (.tmp 23) 22 rfl w.heap.size 74 i0 _ 2 8 Tryz.underlying22 hi z0 z1 z2 rfl (by decide) _ _ _ rfl nB.out (wr.heap.size + 1 + 1) (some ⟨wr.heap.size + 1, 0, none⟩) 1 1 [.int .i32 a, .int .i32 (x - 1)] rfl HN.out (gv _ _) (by simp only [maxLen]; omega) (by omega) cS.out.size ?_);intro v' w9 an;have cE := Lib.hid (cS.out.trans (an.below cS.out.size nB.out));have fe := Lib.hid (show w9.ownsRow w.heap.size 74 2 v' (k + 1) (ak (acc ++ [(a, x - 1)])) by rw [dH]; exact an.own);have ij : aM w9 wr.heap.size 74 #[.int .i32 x, .int .i32 y] := by
    have h1 : aM ((wr.alloc (.cells #[.int .i32 x, .int .i32 y] 74)).alloc (.cells #[.int .i32 a, .int .i32 (x - 1)] 74)) wr.heap.size 74 #[.int .i32 x, .int .i32 y] := HY.out.alloc _;unfold aM at h1 ⊢;rw [an.2.1.block _ (by simp; omega) (fun e => ?_)];exact h1;have := (eB Kq.out e.symm).2; omega
   have e1 := ij.cell 1;clear an ij;go_wp2_with fail;exact ⟨⟨j + 1, k + 1, y + 1, acc ++ [(a, x - 1)], by omega, by go_num, rfl, by omega, by omega, by omega, fe.out, by simp; omega, by rw [HG.out]; simp, cE.out⟩, by simp [intOf]; omega⟩
  rw [if_neg hgt, List.nil_append] at bz;have HG := Lib.hid bz;clear bz;go_wp2_with fail;exact ⟨⟨j + 1, k, y + 1, acc, by omega, by go_num, rfl, by omega, by omega, by omega, nR.out, by omega, HG.out, b8.out⟩, by simp [intOf]; omega⟩
 obtain rfl : j = n := (by omega);rw [List.drop_of_length_le (by rw [cn.out]; omega), j9] at bz;by_cases hle : a ≤ 1114111
 ·rw [if_pos hle] at bz;have HG := Lib.hid bz;have nB := Lib.hid (World.ownsRow.alloc hown (.cells #[.int .i32 a, .int .i32 1114111] 74));have cS := Lib.hid (hb.alloc hb.size (.cells #[.int .i32 a, .int .i32 1114111] 74));have HN := Lib.hid (Rd.new wr 74 2 1 [.int .i32 a, .int .i32 1114111] rfl);clear bz hown hb hb0;go_wp2_with (at_builtin; refine av _ rfl (.tmp 31) (.tmp 34) 22 rfl w.heap.size 74 i0 _ 2 8 Tryz.underlying22 hi z0 z1 z2 rfl (by decide) _ _ _ rfl nB.out (wr.heap.size + 1) (some ⟨wr.heap.size, 0, none⟩) 1 1 [.int .i32 a, .int .i32 1114111] rfl HN.out (gv _ _) (by simp only [maxLen]; omega) (by omega) cS.out.size ?_);intro v' w9 an;have cE := Lib.hid (cS.out.trans (an.below cS.out.size nB.out));have fe := Lib.hid (show w9.ownsRow w.heap.size 74 2 v' (k + 1) (ak (qV s)) by rw [HG.out, dH]; exact an.own);clear an;obtain ⟨A9, c9, rfl, nS⟩ := aP fe.out;go_wp2_with fail;go_ret;exact ⟨A9, k + 1, c9, rfl, di.fk fe.out (fun b hb => (eB fe.out hb).1), by omega, nS, cE.out⟩
 rw [if_neg hle, List.append_nil] at bz;have fe := Lib.hid (show wr.ownsRow w.heap.size 74 2 (.slice A3 k c3) k (ak (qV s)) by rw [bz]; exact hown);clear bz hown hb0;go_wp2_with fail;go_ret;exact ⟨A3, k, c3, rfl, di.fk fe.out (fun b hb => (eB fe.out hb).1), by omega, eC, hb⟩
def FO (w : World) (outs : List ag) (us : List Value) : Prop := ∀ (i : Nat) (l : ag) (u : Value), outs[i]? = some l → us[i]? = some u → ∃ A n c, u = .slice A n c ∧ Rd w w.heap.size 2 A n (ak l)
theorem FO.below {w w' : World} {outs : List ag} {us : List Value} (h : FO w outs us) (hb : Below w.heap.size w w') : FO w' outs us := by
 intro i l u h1 h2;obtain ⟨A, n, c, e, hr⟩ := h i l u h1 h2;exact ⟨A, n, c, e, (Rd.below hr hb).more hb.size⟩
theorem xe (A : Option Addr) (n c : Nat) (l : ag) (w : World) (hn : n ≤ 100000) (hl : kH w w.heap.size A n l) :
    Calls Tryz.prog 89 #[.slice A n c] w fun e w' => (∃ v, e = .returned v ∧ w'.ownsRow w.heap.size 74 2 v n (ak l)) ∧ Below w.heap.size w w' := by
 obtain ⟨i0, hi, z0, z1, z2⟩ := info_parts gC;have GX := Lib.hid (fun W => Lib.run_eql_slice_nil (P := Tryz.prog) W 22 74 A n c 0 0 Tryz.underlying22);have HL := Lib.hid hl;cases A with
 | none =>
  have h0 : n = 0 := by
   rcases Nat.eq_zero_or_pos n with h | h;exact h;obtain ⟨b, o, e, _⟩ := hl.2 h;cases e
  subst h0;have Nc : l = [] := List.eq_nil_of_length_eq_zero hl.len;subst Nc;have heq := fun W => GX.out W;simp only [Option.isNone_none] at heq;clear hl;go_enter Tryz.func89, Tryz.ntmps89;go_wp2_with fail;go_ret;exact ⟨⟨_, rfl, World.ownsRow_nil _ _ _ _⟩, Below.refl _ _⟩
 | some a =>
  have heq := fun W => GX.out W;simp only [Option.isNone_some] at heq;have RV := Lib.hid (bH w 74 2 w.heap.size w.heap.size rfl (Nat.le_refl _));have hba := (Below.refl w.heap.size w).alloc (Nat.le_refl _) (.cells #[] 74);have Q0 := Lib.hid hba;have fX := Lib.hid ((Rd.below hl hba).more hba.size);clear hba hl;go_enter Tryz.func89, Tryz.ntmps89;go_wp2_with (at_builtin; refine av _ rfl (.tmp 5) (.tmp 6) 22 rfl w.heap.size 74 i0 _ 2 8 Tryz.underlying22 hi z0 z1 z2 rfl (by decide) _ _ _ rfl RV.out _ (some a) n c (ak l) rfl fX.out (mZ _) (by simp only [maxLen]; omega) (by omega) (by simp) ?_);intro v1 w3 an;have bV := Lib.hid (Q0.out.trans (an.below (by simp) RV.out));have jN := Lib.hid an.own;clear an heq;go_wp2_with fail;go_ret;exact ⟨⟨_, rfl, by simpa using jN.out⟩, bV.out⟩
theorem ze (n : Nat) (w : World) (hn : n ≤ 100000) :
    Calls Tryz.prog 94 #[.slice none 0 0, .int .i64 n] w fun e w' => (∃ v, e = .returned v ∧ w'.ownsRow w.heap.size 74 2 v 0 []) ∧ Below w.heap.size w w' := by
 obtain ⟨i0, hi, z0, z1, z2⟩ := info_parts gC;by_cases h0 : n = 0
 ·subst h0;go_enter Tryz.func94, Tryz.ntmps94;go_wp2_with fail;go_ret;exact ⟨⟨_, rfl, World.ownsRow_nil _ _ _ _⟩, Below.refl _ _⟩
 have hrun := Lib.run_append_nil_zeros (P := Tryz.prog) w 22 3 22 74 i0 (.agg #[.int .i32 0, .int .i32 0]) .i64 .i64 Tryz.underlying22 Tryz.underlying3 hi z0 n (by omega) (by omega) (by omega) (by rw [z2]; omega);generalize hcap : grownCap w n 0 74 = cap at hrun;have SU : n ≤ cap := (by rw [← hcap]; exact grownCap_ge w _ 0 74);have Q6 : cap ≤ maxLen := (by rw [← hcap]; exact grownCap_le_maxLen w _ 0 74 (by simp only [maxLen]; omega));generalize hZ : (Builtin.zeroCells (Value.agg #[.int .i32 0, .int .i32 0]).cells n ++ Builtin.zeroCells (Value.agg #[.int .i32 0, .int .i32 0]).cells (cap - n)) = Z at hrun;have SH : Z.size = cap * 2 := (by rw [← hZ]; simp [size_zeroCells, Value.cells]; omega);have HR := Lib.hid hrun
 have HO := Lib.hid (show (w.drew.alloc (.cells Z 74)).ownsRow w.heap.size 74 2 (.slice (some ⟨w.heap.size, 0, none⟩) 0 cap) 0 [] from
   ⟨rfl, .inr ⟨w.heap.size, cap, Z, rfl, Nat.le_refl _, heap_alloc_new w.drew _, Nat.zero_le _, Q6, by omega, by simp⟩⟩)
 have HB := Lib.hid (show Below w.heap.size w (w.drew.alloc (.cells Z 74)) from ((Below.refl w.heap.size w).drew).alloc (Nat.le_refl _) _);clear hcap hZ SH hrun;go_enter Tryz.func94, Tryz.ntmps94;go_wp2_with (at_builtin; refine Lib.wpList_append_run _ rfl (.tmp 20) (.tmp 21) _ _ rfl (.slice none 0 0) (.int .i64 n) rfl rfl _ _ HR.out ?_);go_wp2_with fail;go_ret;exact ⟨⟨_, rfl, HO.out⟩, HB.out⟩
theorem nE {outs : List ag} {k : Nat} {x : ag} (h : outs[k]? = some x) : (outs.take (k + 1)).flatten = (outs.take k).flatten ++ x := by
 rw [List.take_add_one, h];simp
theorem oB (outs : List ag) (k : Nat) : (outs.take k).flatten.length ≤ outs.flatten.length := by
 have h := congrArg (fun z : List ag => z.flatten.length) (List.take_append_drop k outs);simp only [List.flatten_append, List.length_append] at h;omega
def Nk (w : World) (outs : List ag) (m : Nat) (s3 i : Value) (wr : World) : Prop :=
  ∃ k : Nat, k ≤ m ∧ i = .int .i64 k ∧ s3 = .int .i64 (outs.take k).flatten.length ∧ w = wr
def I2 (w : World) (outs : List ag) (m : Nat) (s6 i : Value) (wr : World) : Prop :=
  ∃ (k N : Nat), k ≤ m ∧ i = .int .i64 k ∧ (outs.take k).flatten.length = N ∧ wr.ownsRow w.heap.size 74 2 s6 N (ak (outs.take k).flatten) ∧ Below w.heap.size w wr
theorem vT (outs : List ag) (us : List Value) (A : Option Addr) (m c : Nat) (w : World) (hlen : outs.length = m) (hrd : Rd w w.heap.size 1 A m us) (Fh : FO w outs us) (hsum : outs.flatten.length ≤ 100000) (hm : m ≤ 100000) :
    Calls Tryz.prog 51 #[.slice A m c] w fun e w' => (∃ v, e = .returned v ∧ w'.ownsRow w.heap.size 74 2 v outs.flatten.length (ak outs.flatten)) ∧ Below w.heap.size w w' := by
 obtain ⟨i0, hi, z0, z1, z2⟩ := info_parts gC;have cn := Lib.hid hlen;have vl := Lib.hid hrd;have Lr := Lib.hid Fh;have Sz := Lib.hid (show us.length = m by have := hrd.1; omega);have FL := Lib.hid hsum;clear hlen hrd Fh hsum;go_enter Tryz.func51, Tryz.ntmps51;go_wp2_with fail;go_loopw [3, 11] (Nk w outs m) (fun _ i _ => m - (intOf i).toNat);(case atStart => exact ⟨0, Nat.zero_le _, rfl, rfl, rfl⟩);obtain ⟨k, hk, rfl, rfl, rfl⟩ := hrel;obtain ⟨S, hS⟩ : ∃ S, (outs.take k).flatten.length = S := ⟨_, rfl⟩;have SJ : S ≤ 100000 := (by have := oB outs k; have := FL.out; omega);by_cases hlt : k < m
 ·obtain ⟨x, hx⟩ : ∃ x, outs[k]? = some x := ⟨_, List.getElem?_eq_getElem (by rw [cn.out]; exact hlt)⟩;obtain ⟨u, hu⟩ : ∃ u, us[k]? = some u := ⟨_, List.getElem?_eq_getElem (by rw [Sz.out]; exact hlt)⟩;obtain ⟨P, n1, c1, rfl, hr⟩ := Lr.out k x u hx hu;obtain ⟨b, o, rfl, _, hc⟩ := vl.out.2 (by omega);have u0 := hc _ _ hu;have oJ := hr.1;rw [aY] at oJ;have NK := Lib.hid (show (outs.take (k + 1)).flatten.length = S + n1 by rw [nE hx, List.length_append, hS]; omega);have F6 : S + n1 ≤ 100000 := (by have := NK.out; have := oB outs (k + 1); have := FL.out; omega);have Cr : (0 : Int) ≤ (k : Int) := (by omega);have NY : decide ((S : Int) + (n1 : Int) < 0) = false := decide_eq_false (by omega);rw [hS];clear hx hu hr hc oJ hS;go_wp2_with fail;exact ⟨⟨k + 1, by omega, by go_num, by rw [NK.out]; go_num, rfl⟩, by simp [intOf]; omega⟩
 obtain rfl : k = m := (by omega);rw [List.take_of_length_le (by rw [cn.out]; exact Nat.le_refl _)] at hS ⊢;have HS := Lib.hid hS;rw [hS];clear hS;go_wp2_with fail;refine (ze S _ SJ).mono ?_;rintro e w1 ⟨⟨v, rfl, ho⟩, aT⟩;have HO := Lib.hid ho;have HB := Lib.hid aT;obtain ⟨A1, c1, rfl, _⟩ := aP ho;clear ho aT;go_wp2_with fail;go_loopw [6, 27] (I2 w outs k) (fun _ i _ => k - (intOf i).toNat);(case atStart => exact ⟨0, 0, Nat.zero_le _, rfl, rfl, HO.out, HB.out⟩);obtain ⟨j, N, hj, rfl, hN, ho, hb⟩ := hrel;have HO := Lib.hid ho;have HB := Lib.hid hb;have HN := Lib.hid hN;have hz := hb.size;have UU : N ≤ 100000 := (by have := oB outs j; have := FL.out; omega);obtain ⟨A2, c2, rfl, _⟩ := aP ho;clear ho hN;by_cases hlt : j < k
 ·obtain ⟨x, hx⟩ : ∃ x, outs[j]? = some x := ⟨_, List.getElem?_eq_getElem (by rw [cn.out]; exact hlt)⟩;obtain ⟨u, hu⟩ : ∃ u, us[j]? = some u := ⟨_, List.getElem?_eq_getElem (by rw [Sz.out]; exact hlt)⟩;obtain ⟨P, n1, Ix, rfl, hr⟩ := (Lr.out.below hb) j x u hx hu;obtain ⟨b, o, rfl, eG, hc⟩ := (Rd.below vl.out hb).2 (by omega);have u0 := hc _ _ hu;have oJ := hr.1;rw [aY] at oJ;have NK := Lib.hid (nE hx);have tS := Lib.hid (show (outs.take (j + 1)).flatten.length = N + n1 by rw [nE hx, List.length_append, HN.out]; omega);have F6 : N + n1 ≤ 100000 := (by have := tS.out; have := oB outs (j + 1); have := FL.out; omega);have HR := Lib.hid hr;clear hx hu hr hc oJ hb;go_wp2_with (at_builtin; refine av _ rfl (.tmp 31) (.tmp 32) 22 rfl w.heap.size 74 i0 _ 2 8 Tryz.underlying22 hi z0 z1 z2 rfl (by decide) _ N _ rfl HO.out _ P n1 Ix (ak x) rfl HR.out (mZ _) (by simp only [maxLen]; omega) (by omega) hz ?_);intro v' w9 an;have cE := Lib.hid (HB.out.trans (an.below hz HO.out));have fe := Lib.hid (show w9.ownsRow w.heap.size 74 2 v' (N + n1) (ak (outs.take (j + 1)).flatten) by rw [NK.out, qZ]; exact an.own);clear an;go_wp2_with fail;exact ⟨⟨j + 1, N + n1, by omega, by go_num, tS.out, fe.out, cE.out⟩, by simp [intOf]; omega⟩
 obtain rfl : j = k := (by omega);have HF := Lib.hid (show wr.ownsRow w.heap.size 74 2 (.slice A2 N c2) outs.flatten.length (ak outs.flatten) by
  have h1 := HO.out;have h2 := HN.out;rw [List.take_of_length_le (by rw [cn.out]; exact Nat.le_refl _)] at h1 h2;rw [h2];exact h1)
 clear hb;go_wp2_with fail;go_ret;exact ⟨⟨_, rfl, HF.out⟩, HB.out⟩
theorem BH {s : ByteArray} (h : cm s = true) : s.size ≤ 20 := by
 unfold cm at h;rw [decide_eq_true_iff] at h;exact h.2.1
def xD (a : aE) : aE := ⟨a.kind, if a.kind = 1 then a.rune else 0, if a.kind = 2 then a.set else [], if a.kind = 3 then a.name else ⟨#[]⟩⟩
def AN (s : bp) : bp := ⟨s.start, s.fin, s.before.map xD, s.source.map xD, s.after.map xD, s.af⟩
def AG : bp := ⟨false, false, [], [], [], 0⟩
def GB (p : aZ) : aZ := ⟨p.kind, if p.kind = 1 ∨ p.kind = 4 then p.name else ⟨#[]⟩, if p.kind = 1 ∨ p.kind = 3 then p.set else [], if p.kind = 2 then p.dir else 0, if p.kind = 2 then AN p.left else AG, if p.kind = 2 then AN p.right else AG⟩
end Go.Proofs.YthnhbcohfoodlaaGreatDoor
