/- The loop's state in resolve.ready as one bundle, and what keeps it: new blocks, one more pass or rule, the closure close. -/
import Derived.Test.YthcjiainpaebfaaReadyArm
namespace Go.Proofs.Ythcjiainpaebfaa
open Go.RowKit Go.Maps

theorem infoRuleB : (Try.prog.info? 59).map (fun i => (i.zero, i.size, i.bytes)) = some (some (.agg zeroRule), 7, 112) := by kernel_rfl

structure RdSt (B : Nat) (w : World) (mb nm : Nat) (l : List PartD) (sm : Bool) (only : Spans) (A A2 : List RuleD) (P P2 : List PassD) (va vb vp vq : Value) (Af : Option Addr) (nf cf : Nat) (wr : World) : Prop where
  hB : B ≤ w.heap.size
  env : EnvM wr (· < B) mb nm l
  ry : RySt B (mb + 5) A A2 P P2 va vb vp vq wr
  v4 : Vars4 (mb + 1) (mb + 2) (mb + 3) (mb + 4) va vb vp vq wr
  sz : mb + 5 ≤ wr.heap.size
  lo : w.heap.size + 3 ≤ mb
  res : Res3 w #[.bool sm, .slice Af nf cf, .slice none 0 0] zeroScript #[.int .i64 0, .int .i64 0] wr
  set : SetV wr (Rows4 B (mb + 5) va vb vp vq) only (.slice Af nf cf)

section
variable {B : Nat} {w wr w2 w9 : World} {mb nm : Nat} {l : List PartD} {sm : Bool} {only : Spans} {A A2 : List RuleD} {P P2 : List PassD} {va vb vp vq v' : Value} {Af : Option Addr} {nf cf : Nat}
theorem RdSt.below (h : RdSt B w mb nm l sm only A A2 P P2 va vb vp vq Af nf cf wr) (hb : Below wr.heap.size wr w2) : RdSt B w mb nm l sm only A A2 P P2 va vb vp vq Af nf cf w2 :=
  ⟨h.hB, h.env.below hb, h.ry.below hb, h.v4.below hb, Nat.le_trans h.sz hb.size, h.lo, h.res.below hb, h.set.keep (Keeps.below hb (fun _ h _ => h))⟩
theorem RdSt.alloc (h : RdSt B w mb nm l sm only A A2 P P2 va vb vp vq Af nf cf wr) (o : Obj) : RdSt B w mb nm l sm only A A2 P P2 va vb vp vq Af nf cf (wr.alloc o) := h.below ((Below.refl _ _).alloc (Nat.le_refl _) o)
theorem RdSt.drew (h : RdSt B w mb nm l sm only A A2 P P2 va vb vp vq Af nf cf wr) : RdSt B w mb nm l sm only A A2 P P2 va vb vp vq Af nf cf wr.drew := h.below (Below.refl _ _).drew
theorem Res3.setO {cf cb cr : Array Value} (h : Res3 w cf cb cr wr) {g i : Nat} {u : Value} (hg : w.heap.size + 3 ≤ g) : Res3 w cf cb cr (wr.setCell ⟨g, i, none⟩ u) :=
  ⟨blk_set_ne h.1 (by omega), blk_set_ne h.2.1 (by omega), blk_set_ne h.2.2.1 (by omega), h.2.2.2.setCell (by simp only; omega) _⟩
theorem RySt.rows (h : RySt B (mb + 5) A A2 P P2 va vb vp vq wr) : (∀ b, va.ownBlock = some b → mb + 5 ≤ b ∧ b < wr.heap.size) ∧ (∀ b, vb.ownBlock = some b → mb + 5 ≤ b ∧ b < wr.heap.size) ∧ (∀ b, vp.ownBlock = some b → mb + 5 ≤ b ∧ b < wr.heap.size) ∧ (∀ b, vq.ownBlock = some b → mb + 5 ≤ b ∧ b < wr.heap.size) := by
  obtain ⟨⟨_, _, _, _, o1⟩, ⟨_, _, _, _, o2⟩, ⟨_, _, _, _, o3⟩, ⟨_, _, _, _, o4⟩, _⟩ := h
  exact ⟨fun b hb => own_lt o1 hb, fun b hb => own_lt o2 hb, fun b hb => own_lt o3 hb, fun b hb => own_lt o4 hb⟩
/-- What the four rows' growing leaves: the map, the variables, the results. -/
theorem RdSt.app (h : RdSt B w mb nm l sm only A A2 P P2 va vb vp vq Af nf cf wr) {e t : TypeId} {sz n m : Nat} {v : Value} {xs ys : List Value} {cs : Array Value} (ho : wr.ownsRow (mb + 5) e sz v n xs)
    (h1 : 53 ≠ e) (h2 : 24 ≠ e) (h3 : 26 ≠ e) (h4 : 29 ≠ e) (ha : Appended (mb + 5) e sz v (wr.alloc (.cells cs t)) m ys v' w9) :
    EnvM w9 (· < B) mb nm l ∧ Vars4 (mb + 1) (mb + 2) (mb + 3) (mb + 4) va vb vp vq w9 ∧ Res3 w #[.bool sm, .slice Af nf cf, .slice none 0 0] zeroScript #[.int .i64 0, .int .i64 0] w9 ∧ mb + 5 ≤ w9.heap.size := by
  have ha0 := h.alloc (.cells cs t)
  have ho2 := World.ownsRow.alloc ho (.cells cs t)
  have hlo := h.lo
  have hBw := h.hB
  refine ⟨EnvM.keep (Keeps.app ha (fun b hb e => ?_) (fun _ h _ => h)) (ha.2.1.block mb ha0.env.lt (fun e => ?_)) ha0.env, ⟨blk_app ha0.v4.1 ho2 h1 ha, blk_app ha0.v4.2.1 ho2 h1 ha, blk_app ha0.v4.2.2.1 ho2 h2 ha, blk_app ha0.v4.2.2.2 ho2 h2 ha⟩,
    ⟨blk_app ha0.res.1 ho2 h3 ha, blk_app ha0.res.2.1 ho2 h3 ha, blk_app ha0.res.2.2.1 ho2 h4 ha, ha0.res.2.2.2.trans (ha.below ha0.res.2.2.2.size (own_mono ho2 (by omega)))⟩, Nat.le_trans ha0.sz ha.2.1.size⟩
  · have := (own_lt ho2 e).1
    omega
  · have := (own_lt ho2 e.symm).1
    omega
theorem keeps_pushP {lo : Nat} (hBl : B ≤ lo) {t : TypeId} {cs : Array Value} {n m sz : Nat} {e : TypeId} {xs ys : List Value} (h4 : wr.ownsRow lo e sz vp n xs) (ha : Appended lo e sz vp (wr.alloc (.cells cs t)) m ys v' w9) :
    Keeps wr (Rows4 B lo va vb vp vq) w9 (Rows4 B lo va vb v' vq) := by
  intro b hb hl
  have hl2 : b < (wr.alloc (.cells cs t)).heap.size := by simp; omega
  have hne : vp.ownBlock ≠ some b := by
    rcases hb with hb | hb
    · intro e
      have := (own_lt h4 e).1
      omega
    · exact hb.2.2.2.1
  refine ⟨(ha.2.1.block b hl2 (fun e => hne e.symm)).trans (heap_alloc_old wr _ hl), hb.imp id (fun ⟨a1, a2, a3, a4, a5⟩ => ⟨a1, a2, a3, ?_, a5⟩), Nat.lt_of_lt_of_le hl2 ha.2.1.size⟩
  rcases ha.2.2 with e | e
  · rw [e]; exact a4
  · rw [e]
    intro he
    injection he with he
    simp at he
    omega
theorem keeps_pushA {lo : Nat} (hBl : B ≤ lo) {t : TypeId} {cs : Array Value} {n m sz : Nat} {e : TypeId} {xs ys : List Value} (h4 : wr.ownsRow lo e sz va n xs) (ha : Appended lo e sz va (wr.alloc (.cells cs t)) m ys v' w9) :
    Keeps wr (Rows4 B lo va vb vp vq) w9 (Rows4 B lo v' vb vp vq) := by
  intro b hb hl
  have hl2 : b < (wr.alloc (.cells cs t)).heap.size := by simp; omega
  have hne : va.ownBlock ≠ some b := by
    rcases hb with hb | hb
    · intro e
      have := (own_lt h4 e).1
      omega
    · exact hb.2.1
  refine ⟨(ha.2.1.block b hl2 (fun e => hne e.symm)).trans (heap_alloc_old wr _ hl), hb.imp id (fun ⟨a1, a2, a3, a4, a5⟩ => ⟨a1, ?_, a3, a4, a5⟩), Nat.lt_of_lt_of_le hl2 ha.2.1.size⟩
  rcases ha.2.2 with e | e
  · rw [e]; exact a2
  · rw [e]
    intro he
    injection he with he
    simp at he
    omega
theorem rows_set {lo g i : Nat} {u : Value} (h1 : B ≤ g) (h2 : g < lo) : Keeps wr (Rows4 B lo va vb vp vq) (wr.setCell ⟨g, i, none⟩ u) (Rows4 B lo va vb vp vq) :=
  Keeps.setCell u (fun b hb => by rcases hb with h | h <;> dsimp only <;> omega) (fun _ h _ => h)
/-- One pass more, forth. -/
theorem RdSt.pushP {css : List (List Value)} {p : PassD} {cs : List Value} {t : TypeId} (h : RdSt B w mb nm l sm only A A2 P P2 va vb vp vq Af nf cf wr) (h1 : css.length = P.length)
    (h2 : ∀ (i : Nat) (a : PassD) (cs : List Value), P[i]? = some a → css[i]? = some cs → PassC wr (Rows4 B (mb + 5) va vb vp vq) a cs) (h3 : ∀ cs ∈ css, cs.length = 2) (h4 : wr.ownsRow (mb + 5) 55 2 vp P.length css.flatten)
    (hp : PassC wr (Rows4 B (mb + 5) va vb vp vq) p cs) (hcs : cs.length = 2) (ha : Appended (mb + 5) 55 2 vp (wr.alloc (.cells cs.toArray t)) (P.length + 1) (css.flatten ++ cs) v' w9) :
    RdSt B w mb nm l sm only A A2 (P ++ [p]) P2 va vb v' vq Af nf cf (w9.setCell ⟨mb + 3, 0, none⟩ v') := by
  have hlo := h.lo
  have hBw := h.hB
  obtain ⟨g1, g2, g3, g4⟩ := h.app h4 (by decide) (by decide) (by decide) (by decide) ha
  refine ⟨hBw, g1.set (by omega) (by omega), (RySt.pushP (by omega) h.ry h1 h2 h3 h4 hp hcs ha).set (by omega) (by omega), ⟨blk_set_ne g2.1 (by omega), blk_set_ne g2.2.1 (by omega), ?_, blk_set_ne g2.2.2.2 (by omega)⟩, by simpa using g4, hlo, g3.setO (by omega), (h.set.keep (keeps_pushP (by omega) h4 ha)).keep (rows_set (by omega) (by omega))⟩
  exact g2.2.2.1.put 0 _
/-- One pass more, back. -/
theorem RdSt.pushQ {css : List (List Value)} {p : PassD} {cs : List Value} {t : TypeId} (h : RdSt B w mb nm l sm only A A2 P P2 va vb vp vq Af nf cf wr) (h1 : css.length = P2.length)
    (h2 : ∀ (i : Nat) (a : PassD) (cs : List Value), P2[i]? = some a → css[i]? = some cs → PassC wr (Rows4 B (mb + 5) va vb vp vq) a cs) (h3 : ∀ cs ∈ css, cs.length = 2) (h4 : wr.ownsRow (mb + 5) 55 2 vq P2.length css.flatten)
    (hp : PassC wr (Rows4 B (mb + 5) va vb vp vq) p cs) (hcs : cs.length = 2) (ha : Appended (mb + 5) 55 2 vq (wr.alloc (.cells cs.toArray t)) (P2.length + 1) (css.flatten ++ cs) v' w9) :
    RdSt B w mb nm l sm only A A2 P (P2 ++ [p]) va vb vp v' Af nf cf (w9.setCell ⟨mb + 4, 0, none⟩ v') := by
  have hlo := h.lo
  have hBw := h.hB
  obtain ⟨g1, g2, g3, g4⟩ := h.app h4 (by decide) (by decide) (by decide) (by decide) ha
  have hk : Keeps wr (Rows4 B (mb + 5) va vb vp vq) wr (Rows4 B (mb + 5) va vb vq vp) := Keeps.refl (fun _ h => h.swapP)
  have hk2 : Keeps w9 (Rows4 B (mb + 5) va vb v' vp) w9 (Rows4 B (mb + 5) va vb vp v') := Keeps.refl (fun _ h => h.swapP)
  refine ⟨hBw, g1.set (by omega) (by omega), (RySt.pushP (by omega) h.ry.swapP h1 (fun i a cs x y => (h2 i a cs x y).keep hk) h3 h4 (hp.keep hk) hcs ha).swapP.set (by omega) (by omega), ⟨blk_set_ne g2.1 (by omega), blk_set_ne g2.2.1 (by omega), blk_set_ne g2.2.2.1 (by omega), ?_⟩, by simpa using g4, hlo, g3.setO (by omega),
    ((h.set.keep (hk.trans (keeps_pushP (by omega) h4 ha))).keep hk2).keep (rows_set (by omega) (by omega))⟩
  exact g2.2.2.2.put 0 _
/-- One rule more, forth. -/
theorem RdSt.pushA {css : List (List Value)} {r : RuleD} {cs : List Value} {t : TypeId} (h : RdSt B w mb nm l sm only A A2 P P2 va vb vp vq Af nf cf wr) (h1 : css.length = A.length)
    (h2 : ∀ (i : Nat) (a : RuleD) (cs : List Value), A[i]? = some a → css[i]? = some cs → RuleC wr (Rows4 B (mb + 5) va vb vp vq) a cs) (h3 : ∀ cs ∈ css, cs.length = 7) (h4 : wr.ownsRow (mb + 5) 59 7 va A.length css.flatten)
    (hp : RuleC wr (Rows4 B (mb + 5) va vb vp vq) r cs) (hcs : cs.length = 7) (ha : Appended (mb + 5) 59 7 va (wr.alloc (.cells cs.toArray t)) (A.length + 1) (css.flatten ++ cs) v' w9) :
    RdSt B w mb nm l sm only (A ++ [r]) A2 P P2 v' vb vp vq Af nf cf (w9.setCell ⟨mb + 1, 0, none⟩ v') := by
  have hlo := h.lo
  have hBw := h.hB
  obtain ⟨g1, g2, g3, g4⟩ := h.app h4 (by decide) (by decide) (by decide) (by decide) ha
  refine ⟨hBw, g1.set (by omega) (by omega), (RySt.pushA (by omega) h.ry h1 h2 h3 h4 hp hcs ha).set (by omega) (by omega), ⟨?_, blk_set_ne g2.2.1 (by omega), blk_set_ne g2.2.2.1 (by omega), blk_set_ne g2.2.2.2 (by omega)⟩, by simpa using g4, hlo, g3.setO (by omega), (h.set.keep (keeps_pushA (by omega) h4 ha)).keep (rows_set (by omega) (by omega))⟩
  exact g2.1.put 0 _
/-- One rule more, back. -/
theorem RdSt.pushB {css : List (List Value)} {r : RuleD} {cs : List Value} {t : TypeId} (h : RdSt B w mb nm l sm only A A2 P P2 va vb vp vq Af nf cf wr) (h1 : css.length = A2.length)
    (h2 : ∀ (i : Nat) (a : RuleD) (cs : List Value), A2[i]? = some a → css[i]? = some cs → RuleC wr (Rows4 B (mb + 5) va vb vp vq) a cs) (h3 : ∀ cs ∈ css, cs.length = 7) (h4 : wr.ownsRow (mb + 5) 59 7 vb A2.length css.flatten)
    (hp : RuleC wr (Rows4 B (mb + 5) va vb vp vq) r cs) (hcs : cs.length = 7) (ha : Appended (mb + 5) 59 7 vb (wr.alloc (.cells cs.toArray t)) (A2.length + 1) (css.flatten ++ cs) v' w9) :
    RdSt B w mb nm l sm only A (A2 ++ [r]) P P2 va v' vp vq Af nf cf (w9.setCell ⟨mb + 2, 0, none⟩ v') := by
  have hlo := h.lo
  have hBw := h.hB
  obtain ⟨g1, g2, g3, g4⟩ := h.app h4 (by decide) (by decide) (by decide) (by decide) ha
  have hk : Keeps wr (Rows4 B (mb + 5) va vb vp vq) wr (Rows4 B (mb + 5) vb va vp vq) := Keeps.refl (fun _ h => h.swapA)
  have hk2 : Keeps w9 (Rows4 B (mb + 5) v' va vp vq) w9 (Rows4 B (mb + 5) va v' vp vq) := Keeps.refl (fun _ h => h.swapA)
  refine ⟨hBw, g1.set (by omega) (by omega), (RySt.pushA (by omega) h.ry.swapA h1 (fun i a cs x y => (h2 i a cs x y).keep hk) h3 h4 (hp.keep hk) hcs ha).swapA.set (by omega) (by omega), ⟨blk_set_ne g2.1 (by omega), ?_, blk_set_ne g2.2.2.1 (by omega), blk_set_ne g2.2.2.2 (by omega)⟩, by simpa using g4, hlo, g3.setO (by omega),
    ((h.set.keep (hk.trans (keeps_pushA (by omega) h4 ha))).keep hk2).keep (rows_set (by omega) (by omega))⟩
  exact g2.2.1.put 0 _
/-- What the closure close leaves alone. -/
theorem RdSt.close {vp' vq' : Value} {A' A2' : List RuleD} {P' P2' : List PassD} (h : RdSt B w mb nm l sm only A A2 P P2 va vb vp vq Af nf cf wr) (hry : RySt B (mb + 5) A' A2' P' P2' (.slice none 0 0) (.slice none 0 0) vp' vq' w2)
    (hv : Vars4 (mb + 1) (mb + 2) (mb + 3) (mb + 4) (.slice none 0 0) (.slice none 0 0) vp' vq' w2) (hb : But4 (mb + 1) (mb + 2) (mb + 3) (mb + 4) vp vq wr w2)
    (hg1 : ∀ k, vp'.ownBlock = some k → vp.ownBlock = some k ∨ wr.heap.size ≤ k) (hg2 : ∀ k, vq'.ownBlock = some k → vq.ownBlock = some k ∨ wr.heap.size ≤ k) :
    RdSt B w mb nm l sm only A' A2' P' P2' (.slice none 0 0) (.slice none 0 0) vp' vq' Af nf cf w2 := by
  have hlo := h.lo
  have hBw := h.hB
  have hsz := h.sz
  obtain ⟨_, _, r3, r4⟩ := h.ry.rows
  obtain ⟨b1, b2, b3, b4, b5⟩ := hb
  have hbel : ∀ k, k < mb + 1 → w2.heap[k]? = wr.heap[k]? := fun k hk => b5 k (by omega) (by omega) (by omega) (by omega) (by omega) (fun e => by have := (r3 k e).1; omega) (fun e => by have := (r4 k e).1; omega)
  have hB : Below w.heap.size wr w2 := ⟨b1, b2, b3, b4, fun k hk => hbel k (by omega)⟩
  refine ⟨hBw, EnvM.keep (fun b (hb : b < B) hl => ⟨hbel b (by omega), hb, Nat.lt_of_lt_of_le hl b4⟩) (hbel mb (by omega)) h.env, hry, hv, Nat.le_trans hsz b4, hlo, ⟨(hbel _ (by omega)).trans h.res.1, (hbel _ (by omega)).trans h.res.2.1, (hbel _ (by omega)).trans h.res.2.2.1, h.res.2.2.2.trans hB⟩, h.set.keep ?_⟩
  intro b hb hl
  rcases hb with hb | ⟨hb, h1, h2, h3, h4⟩
  · exact ⟨hbel b (by omega), .inl hb, Nat.lt_of_lt_of_le hl b4⟩
  · refine ⟨b5 b hl (by omega) (by omega) (by omega) (by omega) h3 h4, .inr ⟨hb, by simp [Value.ownBlock], by simp [Value.ownBlock], fun e => ?_, fun e => ?_⟩, Nat.lt_of_lt_of_le hl b4⟩
    · rcases hg1 b e with e | e
      · exact h3 e
      · omega
    · rcases hg2 b e with e | e
      · exact h4 e
      · omega
theorem But4.blk {ga gb gp gq g : Nat} {t : TypeId} {cs : Array Value} (h : But4 ga gb gp gq vp vq wr w2) (hb : Blk wr g t cs) (h1 : g ≠ ga) (h2 : g ≠ gb) (h3 : g ≠ gp) (h4 : g ≠ gq) (h5 : vp.ownBlock ≠ some g) (h6 : vq.ownBlock ≠ some g) : Blk w2 g t cs :=
  (h.2.2.2.2 g hb.lt h1 h2 h3 h4 h5 h6).trans hb
/-- A block of another kind is none of the two rows of passes. -/
theorem RySt.neP {lo : Nat} (h : RySt B lo A A2 P P2 va vb vp vq wr) {g : Nat} {t : TypeId} {cs : Array Value} (hb : Blk wr g t cs) (ht : t ≠ 55) : vp.ownBlock ≠ some g ∧ vq.ownBlock ≠ some g := by
  obtain ⟨_, _, ⟨_, _, _, _, o3⟩, ⟨_, _, _, _, o4⟩, _⟩ := h
  exact ⟨own_ne_blk o3 hb ht, own_ne_blk o4 hb ht⟩
end

theorem look_small {l : List PartD} (h : ∀ p ∈ l, partP p = 0) (k : Nat) : ∀ s set, lookP (l.take k) s = some set → set.length ≤ 200 := by
  intro s set
  have h2 : ∀ p ∈ l.take k, partP p = 0 := fun p hp => h p (List.mem_of_mem_take hp)
  generalize l.take k = m at h2 ⊢
  induction m with
  | nil => intro e; cases e
  | cons p m ih =>
    intro e
    rw [lookP] at e
    by_cases hp : p.kind = 1 ∧ p.name = s
    · rw [if_pos hp] at e
      injection e with e
      subst e
      rcases part_kinds (h2 p (by simp)) with ⟨_, _, h3⟩ | ⟨h1, _⟩ | ⟨h1, _⟩ | ⟨h1, _⟩
      · exact set_small h3
      · rw [hp.1] at h1; cases h1
      · rw [hp.1] at h1; cases h1
      · rw [hp.1] at h1; cases h1
    · rw [if_neg hp] at e
      exact ih (fun q hq => h2 q (by simp [hq])) e
theorem list7 {cs : List Value} (h : cs.length = 7) : ∃ u0 u1 u2 u3 u4 u5 u6, cs = [u0, u1, u2, u3, u4, u5, u6] := by
  match cs, h with
  | [u0, u1, u2, u3, u4, u5, u6], _ => exact ⟨_, _, _, _, _, _, _, rfl⟩
/-- A rule that a call has told, laid into a new block. -/
theorem laid7 (w : World) (u0 u1 u2 u3 u4 u5 u6 : Value) : Blk (set7 (w.alloc (.cells zeroRule 59)) w.heap.size u0 u1 u2 u3 u4 u5 u6) w.heap.size 59 #[u0, u1, u2, u3, u4, u5, u6] ∧ Below w.heap.size w (set7 (w.alloc (.cells zeroRule 59)) w.heap.size u0 u1 u2 u3 u4 u5 u6) ∧ w.heap.size + 1 ≤ (set7 (w.alloc (.cells zeroRule 59)) w.heap.size u0 u1 u2 u3 u4 u5 u6).heap.size := by
  refine ⟨?_, below7 ((Below.refl _ _).alloc (Nat.le_refl _) _) (Nat.le_refl _) u0 u1 u2 u3 u4 u5 u6, by simp [set7]⟩
  have h := Blk.new w 59 zeroRule
  exact ((((((h.put 0 u0).put 1 u1).put 2 u2).put 3 u3).put 4 u4).put 5 u5).put 6 u6
theorem pass_none (w : World) (X : Nat → Prop) (nm : ByteArray) : PassC w X ⟨nm, []⟩ [.string nm, .slice none 0 0] :=
  ⟨_, rfl, none, 0, 0, rfl, ⟨[], rfl, rfl, by simp, by simp, rfl, fun h => absurd h (Nat.lt_irrefl 0)⟩, Nat.zero_le _⟩
theorem rows_fresh {B lo g : Nat} {va vb vp vq : Value} (h1 : ∀ b, va.ownBlock = some b → b < g) (h2 : ∀ b, vb.ownBlock = some b → b < g) (h3 : ∀ b, vp.ownBlock = some b → b < g) (h4 : ∀ b, vq.ownBlock = some b → b < g) (hg : lo ≤ g) : ∀ b, Fr B g b → Rows4 B lo va vb vp vq b := by
  intro b hb
  rcases hb with hb | hb
  · exact .inl hb
  · exact .inr ⟨by omega, fun e => by have := h1 b e; omega, fun e => by have := h2 b e; omega, fun e => by have := h3 b e; omega, fun e => by have := h4 b e; omega⟩

end Go.Proofs.Ythcjiainpaebfaa
