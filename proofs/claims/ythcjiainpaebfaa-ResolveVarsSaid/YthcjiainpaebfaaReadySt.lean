/- The four rows that resolve.ready builds: rules forth and back, passes forth and back. -/
import Derived.Test.YthcjiainpaebfaaReadyP
namespace Go.Proofs.Ythcjiainpaebfaa
open Go.RowKit

theorem infoRuleT : (Try.prog.info? 59).map (fun i => (i.zero, i.size)) = some (some (.agg zeroRule), 7) := by kernel_rfl
theorem infoPassT : (Try.prog.info? 55).map (fun i => (i.zero, i.size)) = some (some (.agg #[.string ⟨#[]⟩, .slice none 0 0]), 2) := by kernel_rfl

theorem own_ne_blk' {w : World} {g base sz n : Nat} {t e : TypeId} {cs : Array Value} {fz : Nat × Nat} {v : Value} {xs : List Value} (ho : w.ownsRow base e sz v n xs) (h : w.heap[g]? = some (.cells cs t fz)) (hne : t ≠ e) : v.ownBlock ≠ some g := by
  rcases ho.2 with ⟨rfl, _⟩ | ⟨g2, cap, cur, rfl, _, hg, _⟩
  · simp [Value.ownBlock]
  · simp only [Value.ownBlock, ne_eq, Option.some.injEq]
    rintro rfl
    rw [h] at hg
    injection hg with hg
    injection hg with _ ht
    exact hne ht
/-- The blocks that what is read stands in: those below B, and those from lo on that are none of the four rows at hand. -/
def Rows4 (B lo : Nat) (va vb vp vq : Value) (b : Nat) : Prop := b < B ∨ (lo ≤ b ∧ va.ownBlock ≠ some b ∧ vb.ownBlock ≠ some b ∧ vp.ownBlock ≠ some b ∧ vq.ownBlock ≠ some b)
/-- The rows hold the rules A, A2 and the passes P, P2. -/
def RySt (B lo : Nat) (A A2 : List RuleD) (P P2 : List PassD) (va vb vp vq : Value) (wx : World) : Prop :=
  OwnL (RuleC wx (Rows4 B lo va vb vp vq)) 59 7 wx lo va A ∧ OwnL (RuleC wx (Rows4 B lo va vb vp vq)) 59 7 wx lo vb A2 ∧
  OwnL (PassC wx (Rows4 B lo va vb vp vq)) 55 2 wx lo vp P ∧ OwnL (PassC wx (Rows4 B lo va vb vp vq)) 55 2 wx lo vq P2 ∧
  (∀ b, va.ownBlock = some b → vb.ownBlock ≠ some b) ∧ (∀ b, vp.ownBlock = some b → vq.ownBlock ≠ some b)
section
variable {B lo : Nat} {A A2 : List RuleD} {P P2 : List PassD} {va vb vp vq v' : Value} {wx w2 : World}
theorem Rows4.swapA {b : Nat} (h : Rows4 B lo va vb vp vq b) : Rows4 B lo vb va vp vq b := h.imp id (fun ⟨h1, h2, h3, h4⟩ => ⟨h1, h3, h2, h4⟩)
theorem Rows4.swapP {b : Nat} (h : Rows4 B lo va vb vp vq b) : Rows4 B lo va vb vq vp b := h.imp id (fun ⟨h1, h2, h3, h4, h5⟩ => ⟨h1, h2, h3, h5, h4⟩)
theorem RySt.nil (B lo : Nat) (w : World) : RySt B lo [] [] [] [] (.slice none 0 0) (.slice none 0 0) (.slice none 0 0) (.slice none 0 0) w :=
  ⟨OwnL.nil _ _, OwnL.nil _ _, OwnL.nil _ _, OwnL.nil _ _, fun b h => by simp [Value.ownBlock] at h, fun b h => by simp [Value.ownBlock] at h⟩
/-- Whatever keeps the rows and what they read keeps the state. -/
theorem RySt.kept (hk : Keeps wx (Rows4 B lo va vb vp vq) w2 (Rows4 B lo va vb vp vq)) (ho : ∀ (e : TypeId) (sz n : Nat) (v : Value) (xs : List Value), wx.ownsRow lo e sz v n xs → w2.ownsRow lo e sz v n xs)
    (h : RySt B lo A A2 P P2 va vb vp vq wx) : RySt B lo A A2 P P2 va vb vp vq w2 := by
  obtain ⟨h1, h2, h3, h4, h5, h6⟩ := h
  exact ⟨h1.kept (ho _ _ · _ ·) (fun _ _ => RuleC.keep hk), h2.kept (ho _ _ · _ ·) (fun _ _ => RuleC.keep hk), h3.kept (ho _ _ · _ ·) (fun _ _ => PassC.keep hk), h4.kept (ho _ _ · _ ·) (fun _ _ => PassC.keep hk), h5, h6⟩
theorem RySt.below (h : RySt B lo A A2 P P2 va vb vp vq wx) (hb : Below wx.heap.size wx w2) : RySt B lo A A2 P P2 va vb vp vq w2 :=
  RySt.kept (Keeps.below hb (fun _ h _ => h)) (fun _ _ _ _ _ h => own_below h hb) h
theorem RySt.alloc (h : RySt B lo A A2 P P2 va vb vp vq wx) (o : Obj) : RySt B lo A A2 P P2 va vb vp vq (wx.alloc o) := h.below ((Below.refl _ _).alloc (Nat.le_refl _) o)
theorem RySt.swapA (h : RySt B lo A A2 P P2 va vb vp vq wx) : RySt B lo A2 A P P2 vb va vp vq wx := by
  obtain ⟨h1, h2, h3, h4, h5, h6⟩ := h
  have hk : Keeps wx (Rows4 B lo va vb vp vq) wx (Rows4 B lo vb va vp vq) := Keeps.refl (fun _ h => h.swapA)
  exact ⟨h2.weak (fun _ _ => RuleC.keep hk), h1.weak (fun _ _ => RuleC.keep hk), h3.weak (fun _ _ => PassC.keep hk), h4.weak (fun _ _ => PassC.keep hk), fun b hb hc => h5 b hc hb, h6⟩
theorem RySt.swapP (h : RySt B lo A A2 P P2 va vb vp vq wx) : RySt B lo A A2 P2 P va vb vq vp wx := by
  obtain ⟨h1, h2, h3, h4, h5, h6⟩ := h
  have hk : Keeps wx (Rows4 B lo va vb vp vq) wx (Rows4 B lo va vb vq vp) := Keeps.refl (fun _ h => h.swapP)
  exact ⟨h1.weak (fun _ _ => RuleC.keep hk), h2.weak (fun _ _ => RuleC.keep hk), h4.weak (fun _ _ => PassC.keep hk), h3.weak (fun _ _ => PassC.keep hk), h5, fun b hb hc => h6 b hc hb⟩
/-- The row of rules is let go: what it holds stays. -/
theorem RySt.drop (h : RySt B lo A A2 P P2 va vb vp vq wx) : RySt B lo [] A2 P P2 (.slice none 0 0) vb vp vq wx := by
  obtain ⟨_, h2, h3, h4, _, h6⟩ := h
  have hk : Keeps wx (Rows4 B lo va vb vp vq) wx (Rows4 B lo (.slice none 0 0) vb vp vq) := Keeps.refl (fun _ h => h.imp id (fun ⟨g1, _, g3⟩ => ⟨g1, by simp [Value.ownBlock], g3⟩))
  exact ⟨OwnL.nil _ _, h2.weak (fun _ _ => RuleC.keep hk), h3.weak (fun _ _ => PassC.keep hk), h4.weak (fun _ _ => PassC.keep hk), fun b hb => by simp [Value.ownBlock] at hb, h6⟩
/-- Which row the grown one is. -/
theorem grown_own {e : TypeId} {sz n : Nat} {v v' : Value} {xs : List Value} {w0 : World} (ha : Appended lo e sz v w0 n xs v' w2) : v'.ownBlock = v.ownBlock ∨ v'.ownBlock = some w0.heap.size := ha.2.2
theorem kept_row {e e2 : TypeId} {sz sz2 n m : Nat} {v u u' : Value} {xs ys : List Value} {w0 : World} (h : w0.ownsRow lo e sz v n xs) (ha : Appended lo e2 sz2 u w0 m ys u' w2) (hne : v.ownBlock ≠ u.ownBlock ∨ v.ownBlock = none) : w2.ownsRow lo e sz v n xs := by
  refine World.ownsRow.kept h ha.2.1 ?_
  rcases hne with h | h
  · exact .inr h
  · exact .inl h
theorem ne_of_types {e e2 : TypeId} {sz sz2 n m : Nat} {v u : Value} {xs ys : List Value} {w0 : World} (h : w0.ownsRow lo e sz v n xs) (h2 : w0.ownsRow lo e2 sz2 u m ys) (hne : e ≠ e2) : v.ownBlock ≠ u.ownBlock ∨ v.ownBlock = none := by
  rcases h.2 with ⟨hv, _⟩ | ⟨g, cap, cur, hv, _, hg, _⟩
  · right; rw [hv]; rfl
  · left
    rw [hv]
    intro e
    exact own_ne_blk' h2 hg hne e.symm
theorem ne_of_apart {u v : Value} (h : ∀ b, u.ownBlock = some b → v.ownBlock ≠ some b) : v.ownBlock ≠ u.ownBlock ∨ v.ownBlock = none := by
  cases hv : v.ownBlock with
  | none => exact .inr rfl
  | some b =>
    left
    intro e
    exact h b e.symm hv
/-- One pass more. -/
theorem RySt.pushP (hBl : B ≤ lo) {css : List (List Value)} {p : PassD} {cs : List Value} {t : TypeId} (h : RySt B lo A A2 P P2 va vb vp vq wx) (h1 : css.length = P.length)
    (h2 : ∀ (i : Nat) (a : PassD) (cs : List Value), P[i]? = some a → css[i]? = some cs → PassC wx (Rows4 B lo va vb vp vq) a cs) (h3 : ∀ cs ∈ css, cs.length = 2) (h4 : wx.ownsRow lo 55 2 vp P.length css.flatten)
    (hp : PassC wx (Rows4 B lo va vb vp vq) p cs) (hcs : cs.length = 2) (ha : Appended lo 55 2 vp (wx.alloc (.cells cs.toArray t)) (P.length + 1) (css.flatten ++ cs) v' w2) : RySt B lo A A2 (P ++ [p]) P2 va vb v' vq w2 := by
  obtain ⟨g1, g2, _, g4, g5, g6⟩ := h
  have hk : Keeps wx (Rows4 B lo va vb vp vq) w2 (Rows4 B lo va vb v' vq) := by
    intro b hb hl
    have hl2 : b < (wx.alloc (.cells cs.toArray t)).heap.size := by simp; omega
    have hne : vp.ownBlock ≠ some b := by
      rcases hb with hb | hb
      · intro e
        have := (own_lt h4 e).1
        omega
      · exact hb.2.2.2.1
    refine ⟨(ha.2.1.block b hl2 (fun e => hne e.symm)).trans (heap_alloc_old wx _ hl), hb.imp id (fun ⟨a1, a2, a3, a4, a5⟩ => ⟨a1, a2, a3, ?_, a5⟩), Nat.lt_of_lt_of_le hl2 ha.2.1.size⟩
    rcases ha.2.2 with e | e
    · rw [e]; exact a4
    · rw [e]
      intro he
      injection he with he
      omega
  have ow := World.ownsRow.alloc h4 (.cells cs.toArray t)
  have kr : ∀ {v : Value} {n : Nat} {xs : List Value}, wx.ownsRow lo 59 7 v n xs → w2.ownsRow lo 59 7 v n xs := fun hv =>
    kept_row (World.ownsRow.alloc hv (.cells cs.toArray t)) ha (ne_of_types (World.ownsRow.alloc hv _) ow (by decide))
  have kq : ∀ {n : Nat} {xs : List Value}, wx.ownsRow lo 55 2 vq n xs → w2.ownsRow lo 55 2 vq n xs := fun hv =>
    kept_row (World.ownsRow.alloc hv (.cells cs.toArray t)) ha (ne_of_apart g6)
  refine ⟨g1.kept (fun _ _ h => kr h) (fun _ _ => RuleC.keep hk), g2.kept (fun _ _ h => kr h) (fun _ _ => RuleC.keep hk), OwnL.push h1 h2 h3 (fun _ _ => PassC.keep hk) (hp.keep hk) hcs ha, g4.kept (fun _ _ h => kq h) (fun _ _ => PassC.keep hk), g5, ?_⟩
  intro b hb hc
  rcases ha.2.2 with e | e
  · rw [e] at hb
    exact g6 b hb hc
  · rw [e] at hb
    obtain ⟨c4, _, _, _, o4⟩ := g4
    have := (own_lt (World.ownsRow.alloc o4 (.cells cs.toArray t)) hc).2
    injection hb with hb
    omega
/-- One rule more. -/
theorem RySt.pushA (hBl : B ≤ lo) {css : List (List Value)} {r : RuleD} {cs : List Value} {t : TypeId} (h : RySt B lo A A2 P P2 va vb vp vq wx) (h1 : css.length = A.length)
    (h2 : ∀ (i : Nat) (a : RuleD) (cs : List Value), A[i]? = some a → css[i]? = some cs → RuleC wx (Rows4 B lo va vb vp vq) a cs) (h3 : ∀ cs ∈ css, cs.length = 7) (h4 : wx.ownsRow lo 59 7 va A.length css.flatten)
    (hp : RuleC wx (Rows4 B lo va vb vp vq) r cs) (hcs : cs.length = 7) (ha : Appended lo 59 7 va (wx.alloc (.cells cs.toArray t)) (A.length + 1) (css.flatten ++ cs) v' w2) : RySt B lo (A ++ [r]) A2 P P2 v' vb vp vq w2 := by
  obtain ⟨_, g2, g3, g4, g5, g6⟩ := h
  have hk : Keeps wx (Rows4 B lo va vb vp vq) w2 (Rows4 B lo v' vb vp vq) := by
    intro b hb hl
    have hl2 : b < (wx.alloc (.cells cs.toArray t)).heap.size := by simp; omega
    have hne : va.ownBlock ≠ some b := by
      rcases hb with hb | hb
      · intro e
        have := (own_lt h4 e).1
        omega
      · exact hb.2.1
    refine ⟨(ha.2.1.block b hl2 (fun e => hne e.symm)).trans (heap_alloc_old wx _ hl), hb.imp id (fun ⟨a1, a2, a3, a4, a5⟩ => ⟨a1, ?_, a3, a4, a5⟩), Nat.lt_of_lt_of_le hl2 ha.2.1.size⟩
    rcases ha.2.2 with e | e
    · rw [e]; exact a2
    · rw [e]
      intro he
      injection he with he
      omega
  have ow := World.ownsRow.alloc h4 (.cells cs.toArray t)
  have kp : ∀ {v : Value} {n : Nat} {xs : List Value}, wx.ownsRow lo 55 2 v n xs → w2.ownsRow lo 55 2 v n xs := fun hv =>
    kept_row (World.ownsRow.alloc hv (.cells cs.toArray t)) ha (ne_of_types (World.ownsRow.alloc hv _) ow (by decide))
  have kb : ∀ {n : Nat} {xs : List Value}, wx.ownsRow lo 59 7 vb n xs → w2.ownsRow lo 59 7 vb n xs := fun hv =>
    kept_row (World.ownsRow.alloc hv (.cells cs.toArray t)) ha (ne_of_apart g5)
  refine ⟨OwnL.push h1 h2 h3 (fun _ _ => RuleC.keep hk) (hp.keep hk) hcs ha, g2.kept (fun _ _ h => kb h) (fun _ _ => RuleC.keep hk), g3.kept (fun _ _ h => kp h) (fun _ _ => PassC.keep hk), g4.kept (fun _ _ h => kp h) (fun _ _ => PassC.keep hk), ?_, g6⟩
  intro b hb hc
  rcases ha.2.2 with e | e
  · rw [e] at hb
    exact g5 b hb hc
  · rw [e] at hb
    obtain ⟨c2, _, _, _, o2⟩ := g2
    have := (own_lt (World.ownsRow.alloc o2 (.cells cs.toArray t)) hc).2
    injection hb with hb
    omega
/-- A pass of the rules at hand, once their row is let go. -/
theorem RySt.pass (h : RySt B lo A A2 P P2 va vb vp vq wx) (hl : A.length ≤ maxLen) (nm : ByteArray) : PassC wx (Rows4 B lo (.slice none 0 0) vb vp vq) ⟨nm, A⟩ [.string nm, va] := by
  obtain ⟨h1, _, h3, h4, h5, _⟩ := h
  obtain ⟨Aa, c, rfl, _⟩ := h1.form
  refine ⟨_, rfl, Aa, A.length, c, rfl, OwnL.done h1 (fun _ _ => RuleC.keep (Keeps.refl (fun _ h => h.imp id (fun ⟨g1, _, g3⟩ => ⟨g1, by simp [Value.ownBlock], g3⟩)))) (fun b hb => .inr ?_), hl⟩
  obtain ⟨css, _, _, _, o1⟩ := h1
  obtain ⟨cs3, _, _, _, o3⟩ := h3
  obtain ⟨cs4, _, _, _, o4⟩ := h4
  have ne : ∀ {v : Value} {n : Nat} {xs : List Value}, wx.ownsRow lo 55 2 v n xs → v.ownBlock ≠ some b := by
    intro v n xs ho
    rcases o1.2 with ⟨hv, _⟩ | ⟨g, cap, cur, hv, _, hg, _⟩
    · rw [hv] at hb; simp [Value.ownBlock] at hb
    · rw [hv] at hb
      simp only [Value.ownBlock, Option.some.injEq] at hb
      subst hb
      exact own_ne_blk' ho hg (by decide)
  exact ⟨(own_lt o1 hb).1, by simp [Value.ownBlock], h5 b hb, ne o3, ne o4⟩
end

end Go.Proofs.Ythcjiainpaebfaa
