/- slices.Reverse of passes, in a row that the call owns. -/
import Derived.Test.YthcjiainpaebfaaFail
import Derived.Laws.OwnMore
namespace Go.Proofs.Ythcjiainpaebfaa
open Go.RowKit

def sw (n k t : Nat) : Nat := if t < k ∨ n - 1 - k < t then n - 1 - t else t
/-- Two elements of two cells change places. -/
def swapL (xs : List Value) (i j : Nat) (a b c d : Value) : List Value := (((xs.set (i * 2) c).set (i * 2 + 1) d).set (j * 2) a).set (j * 2 + 1) b
def RvRel (w : World) (g lo n cap : Nat) (ys : List Value) (i j : Value) (wr : World) : Prop :=
  ∃ (k q : Nat) (xs : List Value), q + k + 1 = n ∧ k ≤ q + 1 ∧ i = .int .i64 k ∧ j = .int .i64 q ∧ wr.ownsRow lo 55 2 (.slice (some ⟨g, 0, none⟩) n cap) n xs ∧ w.grownBy wr (some g) ∧
    ∀ t d, t < n → d < 2 → xs[t * 2 + d]? = ys[sw n k t * 2 + d]?
theorem swap_step {n k q : Nat} {xs ys : List Value} {a b c d : Value} (hn : q + k + 1 = n) (hkq : k < q) (hxl : xs.length = n * 2) (h : ∀ t d, t < n → d < 2 → xs[t * 2 + d]? = ys[sw n k t * 2 + d]?)
    (h0 : ys[k * 2]? = some a) (h1 : ys[k * 2 + 1]? = some b) (h2 : ys[q * 2]? = some c) (h3 : ys[q * 2 + 1]? = some d) :
    ∀ t e, t < n → e < 2 → (swapL xs k q a b c d)[t * 2 + e]? = ys[sw n (k + 1) t * 2 + e]? := by
  intro t e ht he
  unfold swapL
  have hsw : sw n (k + 1) t = if t = k then q else if t = q then k else sw n k t := by
    unfold sw
    by_cases e1 : t = k
    · subst e1
      rw [if_pos rfl, if_pos (by omega)]
      omega
    · rw [if_neg e1]
      by_cases e2 : t = q
      · subst e2
        rw [if_pos rfl, if_pos (by omega)]
        omega
      · rw [if_neg e2]
        by_cases e3 : t < k ∨ n - 1 - k < t
        · rw [if_pos e3, if_pos (by omega)]
        · rw [if_neg e3, if_neg (by omega)]
  rw [hsw]
  simp only [List.getElem?_set, List.length_set]
  by_cases e1 : t = k
  · subst e1
    rw [if_pos rfl]
    rcases (show e = 0 ∨ e = 1 by omega) with rfl | rfl
    · rw [if_neg (by omega), if_neg (by omega), if_neg (by omega), if_pos (by omega), if_pos (by omega), Nat.add_zero, h2]
    · rw [if_neg (by omega), if_neg (by omega), if_pos (by omega), if_pos (by omega), h3]
  · rw [if_neg e1]
    by_cases e2 : t = q
    · subst e2
      rw [if_pos rfl]
      rcases (show e = 0 ∨ e = 1 by omega) with rfl | rfl
      · rw [if_neg (by omega), if_pos (by omega), if_pos (by omega), Nat.add_zero, h0]
      · rw [if_pos (by omega), if_pos (by omega), h1]
    · rw [if_neg e2, if_neg (by omega), if_neg (by omega), if_neg (by omega), if_neg (by omega)]
      exact h t e ht he

theorem rev_done {n k q : Nat} {xs : List Value} {css : List (List Value)} (hn : q + k + 1 = n) (hq : q ≤ k) (hl : css.length = n) (h2 : ∀ cs ∈ css, cs.length = 2) (hxl : xs.length = n * 2) (h : ∀ t d, t < n → d < 2 → xs[t * 2 + d]? = css.flatten[sw n k t * 2 + d]?) : xs = css.reverse.flatten := by
  have h2r : ∀ cs ∈ css.reverse, cs.length = 2 := fun cs hc => h2 cs (List.mem_reverse.1 hc)
  apply List.ext_getElem?
  intro m
  by_cases hm : m < n * 2
  · have ht : m / 2 < n := by omega
    have hd : m % 2 < 2 := Nat.mod_lt _ (by decide)
    have em : m / 2 * 2 + m % 2 = m := by omega
    have e1 := h (m / 2) (m % 2) ht hd
    rw [em] at e1
    obtain ⟨cs, hcs⟩ : ∃ z, css[n - 1 - m / 2]? = some z := ⟨_, List.getElem?_eq_getElem (by omega)⟩
    obtain ⟨u, hu⟩ : ∃ u, cs[m % 2]? = some u := ⟨_, List.getElem?_eq_getElem (by rw [h2 cs (List.mem_of_getElem? hcs)]; exact hd)⟩
    have hsw : sw n k (m / 2) = n - 1 - m / 2 := by
      unfold sw
      by_cases e : m / 2 < k ∨ n - 1 - k < m / 2
      · rw [if_pos e]
      · rw [if_neg e]; omega
    have e2 := flatten_get h2 _ cs hcs _ u hu
    have hr : css.reverse[m / 2]? = some cs := by
      rw [List.getElem?_reverse (by omega), hl]
      exact hcs
    have e3 := flatten_get h2r _ cs hr _ u hu
    rw [em] at e3
    rw [e1, hsw, e2, e3]
  · have hlen : css.reverse.flatten.length = n * 2 := by
      have : ∀ (l : List (List Value)), (∀ cs ∈ l, cs.length = 2) → l.flatten.length = l.length * 2 := by
        intro l
        induction l with
        | nil => intro _; rfl
        | cons a l ih =>
          intro ha
          rw [List.flatten_cons, List.length_append, ih (fun x hx => ha x (by simp [hx])), ha a (by simp), List.length_cons]
          omega
      rw [this _ h2r, List.length_reverse, hl]
    rw [List.getElem?_eq_none (by omega), List.getElem?_eq_none (by omega)]

set_option maxRecDepth 100000 in
set_option maxHeartbeats 3200000 in
theorem syn_reverse (lo g n cap : Nat) (css : List (List Value)) (w : World) (hn : 0 < n) (hn2 : n ≤ 1000) (hl : css.length = n) (hc : ∀ cs ∈ css, ∃ s A m c, cs = [.string s, .slice A m c]) (ho : w.ownsRow lo 55 2 (.slice (some ⟨g, 0, none⟩) n cap) n css.flatten) :
    Calls Try.prog 28 #[.slice (some ⟨g, 0, none⟩) n cap] w fun e w' => e = .returned (.tuple #[]) ∧ w'.ownsRow lo 55 2 (.slice (some ⟨g, 0, none⟩) n cap) n css.reverse.flatten ∧ w.grownBy w' (some g) := by
  have h2 : ∀ cs ∈ css, cs.length = 2 := fun cs h => by obtain ⟨s, A, m, c, rfl⟩ := hc cs h; rfl
  have HL := Lib.hid hl
  have HC := Lib.hid hc
  have H2 := Lib.hid h2
  have HO := Lib.hid ho
  clear hl hc h2 ho
  go_enter Try.func28, Try.ntmps28
  go_wp2_with fail
  go_loopw [2, 3] (RvRel w g lo n cap css.flatten) (fun i j _ => n - (intOf i).toNat)
  case atStart =>
    refine ⟨0, n - 1, css.flatten, by omega, by omega, rfl, by go_num, HO.out, World.grownBy.refl _ _, fun t d ht hd => ?_⟩
    unfold sw
    rw [if_neg (by omega)]
  case round =>
    obtain ⟨k, q, xs, hkq, hkq2, rfl, rfl, hown, hgr, hx⟩ := hrel
    by_cases hlt : k < q
    · obtain ⟨c1, hc1⟩ : ∃ z, css[k]? = some z := ⟨_, List.getElem?_eq_getElem (by rw [HL.out]; omega)⟩
      obtain ⟨c2, hc2⟩ : ∃ z, css[q]? = some z := ⟨_, List.getElem?_eq_getElem (by rw [HL.out]; omega)⟩
      obtain ⟨s1, A1, m1, d1, rfl⟩ := HC.out c1 (List.mem_of_getElem? hc1)
      obtain ⟨s2, A2, m2, d2, rfl⟩ := HC.out c2 (List.mem_of_getElem? hc2)
      have y0 : css.flatten[k * 2]? = some (.string s1) := flatten_get H2.out k _ hc1 0 _ rfl
      have y1 : css.flatten[k * 2 + 1]? = some (.slice A1 m1 d1) := flatten_get H2.out k _ hc1 1 _ rfl
      have y2 : css.flatten[q * 2]? = some (.string s2) := flatten_get H2.out q _ hc2 0 _ rfl
      have y3 : css.flatten[q * 2 + 1]? = some (.slice A2 m2 d2) := flatten_get H2.out q _ hc2 1 _ rfl
      have sk : sw n k k = k := by unfold sw; rw [if_neg (by omega)]
      have sq : sw n k q = q := by unfold sw; rw [if_neg (by omega)]
      have x0 : xs[k * 2]? = some (Value.string s1) := (hx k 0 (by omega) (by omega)).trans (by rw [sk]; exact y0)
      have x1 : xs[k * 2 + 1]? = some (Value.slice A1 m1 d1) := (hx k 1 (by omega) (by omega)).trans (by rw [sk]; exact y1)
      have x2 : xs[q * 2]? = some (Value.string s2) := (hx q 0 (by omega) (by omega)).trans (by rw [sq]; exact y2)
      have x3 : xs[q * 2 + 1]? = some (Value.slice A2 m2 d2) := (hx q 1 (by omega) (by omega)).trans (by rw [sq]; exact y3)
      have z0 : wr.cell? ⟨g, k * 2, none⟩ = some (.string s1) := by have := World.ownsRow.cells hown (g := g) rfl _ _ x0; rwa [add_at, Nat.zero_add] at this
      have z1 : wr.cell? ⟨g, k * 2 + 1, none⟩ = some (.slice A1 m1 d1) := by have := World.ownsRow.cells hown (g := g) rfl _ _ x1; rwa [add_at, Nat.zero_add] at this
      have z2 : wr.cell? ⟨g, q * 2, none⟩ = some (.string s2) := by have := World.ownsRow.cells hown (g := g) rfl _ _ x2; rwa [add_at, Nat.zero_add] at this
      have z3 : wr.cell? ⟨g, q * 2 + 1, none⟩ = some (.slice A2 m2 d2) := by have := World.ownsRow.cells hown (g := g) rfl _ _ x3; rwa [add_at, Nat.zero_add] at this
      have f0 := World.ownsRow.frozenAt hown (k * 2)
      have f1 := World.ownsRow.frozenAt hown (k * 2 + 1)
      have f2 := World.ownsRow.frozenAt hown (q * 2)
      have f3 := World.ownsRow.frozenAt hown (q * 2 + 1)
      have hs := World.ownsRow.stored (World.ownsRow.stored (World.ownsRow.stored (World.ownsRow.stored hown (k * 2) (.string s2)).1 (k * 2 + 1) (.slice A2 m2 d2)).1 (q * 2) (.string s1)).1 (q * 2 + 1) (.slice A1 m1 d1)
      have hgs := (((hgr.trans (World.ownsRow.stored hown (k * 2) (.string s2)).2).trans (World.ownsRow.stored (World.ownsRow.stored hown (k * 2) (.string s2)).1 (k * 2 + 1) (.slice A2 m2 d2)).2).trans (World.ownsRow.stored (World.ownsRow.stored (World.ownsRow.stored hown (k * 2) (.string s2)).1 (k * 2 + 1) (.slice A2 m2 d2)).1 (q * 2) (.string s1)).2).trans hs.2
      have HST := Lib.hid (swap_step hkq hlt hown.1 hx y0 y1 y2 y3)
      have HS := Lib.hid hs.1
      have HG := Lib.hid hgs
      have hne0 : ¬ k * 2 = q * 2 := by omega
      have hne1 : ¬ k * 2 = q * 2 + 1 := by omega
      have hne2 : ¬ k * 2 + 1 = q * 2 := by omega
      have hkn : (k : Int) < (n : Int) := by omega
      have hqn : (q : Int) < (n : Int) := by omega
      clear hs hgs hx x0 x1 x2 x3 y0 y1 y2 y3 hc1 hc2 sk sq hown hgr
      go_wp2_with fail
      go_region
      all_goals
        go_wp2_with fail
        refine ⟨⟨k + 1, q - 1, _, by omega, by omega, by go_num, by go_num, HS.out, ⟨HG.out.os, HG.out.tape, HG.out.output, HG.out.size, HG.out.block⟩, HST.out⟩, by simp [intOf]; omega⟩
    · have HX := Lib.hid (rev_done hkq (by omega) HL.out H2.out hown.1 hx)
      have HW := Lib.hid hown
      have HG := Lib.hid hgr
      clear hx hown hgr
      go_wp2_with fail
      go_end0
      rw [← HX.out]
      exact ⟨rfl, HW.out, HG.out⟩

set_option maxRecDepth 100000 in
theorem syn_reverse_none (A : Option Addr) (cap : Nat) (w : World) :
    Calls Try.prog 28 #[.slice A 0 cap] w fun e w' => e = .returned (.tuple #[]) ∧ w = w' := by
  go_enter Try.func28, Try.ntmps28
  go_wp2_with fail
  go_loopw [2, 3] (fun i j wr => i = .int .i64 0 ∧ j = .int .i64 (-1) ∧ wr = w) (fun _ _ _ => 0)
  case atStart => exact ⟨rfl, rfl, rfl⟩
  case round =>
    obtain ⟨rfl, rfl, rfl⟩ := hrel
    go_wp2_with fail
    go_end0
    exact ⟨rfl, rfl⟩

end Go.Proofs.Ythcjiainpaebfaa
