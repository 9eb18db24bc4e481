/- (Foot without the parts of a file, and with heads.) Lists of lists and of structs in memory, by the blocks that they stand in: what is read stays as it is while other blocks are written; rows that are being built. -/
import Derived.Test.YthnhbcohfoodlaaGreatDoorOpenSpans
import Derived.Test.YthnhbcohfoodlaaGreatDoorKinds
import Derived.Deep.Strs
namespace Go.Proofs.YthnhbcohfoodlaaGreatDoor
open Go.RowKit

theorem flatten_get {css : List (List Value)} {sz : Nat} (h : ∀ cs ∈ css, cs.length = sz) : ∀ (k : Nat) (cs : List Value), css[k]? = some cs → ∀ j u, cs[j]? = some u → css.flatten[k * sz + j]? = some u := by
  induction css with
  | nil => intro k cs hk; simp at hk
  | cons c css ih =>
    intro k cs hk j u hu
    have hc : c.length = sz := h c (by simp)
    cases k with
    | zero =>
      simp at hk
      subst hk
      rw [List.flatten_cons, Nat.zero_mul, Nat.zero_add, List.getElem?_append_left (List.getElem?_eq_some_iff.1 hu).1]
      exact hu
    | succ k =>
      rw [List.flatten_cons, List.getElem?_append_right (by rw [hc, Nat.succ_mul]; omega), hc, show (k + 1) * sz + j - sz = k * sz + j by rw [Nat.succ_mul]; omega]
      exact ih (fun x hx => h x (by simp [hx])) k cs (by simpa using hk) j u hu

/-- Slice A of n elements of sz cells each reads as xs; its block is one of X. -/
def RdX (w : World) (X : Nat → Prop) (sz : Nat) (A : Option Addr) (n : Nat) (xs : List Value) : Prop :=
  xs.length = n * sz ∧ (0 < n → ∃ b off, A = some ⟨b, off, none⟩ ∧ X b ∧ b < w.heap.size ∧ ∀ j u, xs[j]? = some u → w.cell? ⟨b, off + j, none⟩ = some u)
/-- The blocks X of w are as they were in w', where they are some of X'. -/
def Keeps (w : World) (X : Nat → Prop) (w' : World) (X' : Nat → Prop) : Prop := ∀ b, X b → b < w.heap.size → w'.heap[b]? = w.heap[b]? ∧ X' b ∧ b < w'.heap.size
section
variable {w w' w2 : World} {X X' X2 : Nat → Prop} {sz n : Nat} {A : Option Addr} {xs : List Value}
theorem Keeps.refl (h : ∀ b, X b → X' b) : Keeps w X w X' := fun b hb hl => ⟨rfl, h b hb, hl⟩
theorem Keeps.trans (h : Keeps w X w' X') (h2 : Keeps w' X' w2 X2) : Keeps w X w2 X2 := fun b hb hl =>
  let ⟨e, hx, hl'⟩ := h b hb hl
  let ⟨e2, hx2, hl2⟩ := h2 b hx hl'
  ⟨e2.trans e, hx2, hl2⟩
theorem Keeps.below (hb : Below w.heap.size w w') (h : ∀ b, X b → b < w.heap.size → X' b) : Keeps w X w' X' := fun b hx hl => ⟨hb.block b hl, h b hx hl, Nat.lt_of_lt_of_le hl hb.size⟩
theorem Keeps.alloc (o : Obj) (h : ∀ b, X b → b < w.heap.size → X' b) : Keeps w X (w.alloc o) X' := fun b hx hl => ⟨heap_alloc_old w o hl, h b hx hl, by simp; omega⟩
theorem Keeps.app {base n : Nat} {e : TypeId} {v v' : Value} (ha : Appended base e sz v w n xs v' w') (hX : ∀ b, X b → v.ownBlock ≠ some b) (h : ∀ b, X b → b < w.heap.size → X' b) : Keeps w X w' X' :=
  fun b hx hl => ⟨ha.2.1.block b hl (fun e => hX b hx e.symm), h b hx hl, Nat.lt_of_lt_of_le hl ha.2.1.size⟩
theorem Keeps.setCell {p : Addr} (u : Value) (hX : ∀ b, X b → b ≠ p.block) (h : ∀ b, X b → b < w.heap.size → X' b) : Keeps w X (w.setCell p u) X' :=
  fun b hx hl => ⟨Below.heap_setCell _ _ _ _ (hX b hx), h b hx hl, by simpa using hl⟩
theorem RdX.keep (hk : Keeps w X w' X') (h : RdX w X sz A n xs) : RdX w' X' sz A n xs := by
  refine ⟨h.1, fun hn => ?_⟩
  obtain ⟨b, off, e, hx, hl, hc⟩ := h.2 hn
  obtain ⟨he, hx', hl'⟩ := hk b hx hl
  exact ⟨b, off, e, hx', hl', fun j u hu => (World.cell?_of_block (w := w) he).trans (hc j u hu)⟩
theorem RdX.rd {B : Nat} (h : RdX w X sz A n xs) (hB : ∀ b, X b → b < w.heap.size → b < B) : Rd w B sz A n xs :=
  ⟨h.1, fun hn => let ⟨b, off, e, hx, hl, hc⟩ := h.2 hn; ⟨b, off, e, hB b hx hl, hc⟩⟩
theorem RdX.of_rd {B : Nat} (h : Rd w B sz A n xs) (hB : B ≤ w.heap.size) (hX : ∀ b, b < B → X b) : RdX w X sz A n xs :=
  ⟨h.1, fun hn => let ⟨b, off, e, hb, hc⟩ := h.2 hn; ⟨b, off, e, hX b hb, Nat.lt_of_lt_of_le hb hB, hc⟩⟩
theorem RdX.of_own {base c : Nat} {e : TypeId} (h : w.ownsRow base e sz (.slice A n c) n xs) (hX : ∀ b, (Value.slice A n c).ownBlock = some b → X b) : RdX w X sz A n xs := by
  refine ⟨h.1, fun hn => ?_⟩
  rcases h.2 with ⟨hv, h0⟩ | ⟨g, cap, cur, hv, hg, hh, hr⟩
  · omega
  · injection hv with hA
    subst hA
    refine ⟨g, 0, rfl, hX g rfl, (Array.getElem?_eq_some_iff.1 hh).1, fun j u hu => ?_⟩
    have := World.ownsRow.cells h (g := g) rfl j u hu
    rwa [add_at] at this
theorem RdX.new (t : TypeId) (cs : List Value) (hl : cs.length = n * sz) (hX : X w.heap.size) : RdX (w.alloc (.cells cs.toArray t)) X sz (some ⟨w.heap.size, 0, none⟩) n cs := by
  refine ⟨hl, fun _ => ⟨_, _, rfl, hX, by simp, fun j u hu => ?_⟩⟩
  rw [(Blk.new w t cs.toArray).cell, Nat.zero_add]
  simpa using hu
end

/-- A slice of structs of sz cells each, R says how each reads. -/
def ListX {α : Type} (R : α → List Value → Prop) (w : World) (X : Nat → Prop) (sz : Nat) (A : Option Addr) (n : Nat) (l : List α) : Prop :=
  ∃ css : List (List Value), l.length = n ∧ css.length = n ∧ (∀ (i : Nat) (a : α) (cs : List Value), l[i]? = some a → css[i]? = some cs → R a cs) ∧ (∀ cs ∈ css, cs.length = sz) ∧ RdX w X sz A n css.flatten
theorem ListX.len {α : Type} {R : α → List Value → Prop} {w : World} {X : Nat → Prop} {sz n : Nat} {A : Option Addr} {l : List α} (h : ListX R w X sz A n l) : l.length = n := by
  obtain ⟨_, h1, _⟩ := h
  exact h1
theorem ListX.keep {α : Type} {R R' : α → List Value → Prop} {w w' : World} {X X' : Nat → Prop} {sz n : Nat} {A : Option Addr} {l : List α} (hk : Keeps w X w' X') (hR : ∀ a cs, R a cs → R' a cs) (h : ListX R w X sz A n l) : ListX R' w' X' sz A n l := by
  obtain ⟨css, h1, h2, h3, h4, h5⟩ := h
  exact ⟨css, h1, h2, fun i a cs ha hc => hR a cs (h3 i a cs ha hc), h4, h5.keep hk⟩
theorem ListX.at {α : Type} {R : α → List Value → Prop} {w : World} {X : Nat → Prop} {sz n : Nat} {A : Option Addr} {l : List α} (h : ListX R w X sz A n l) {k : Nat} {a : α} (hk : l[k]? = some a) :
    ∃ (b off : Nat) (cs : List Value), A = some ⟨b, off, none⟩ ∧ X b ∧ b < w.heap.size ∧ R a cs ∧ cs.length = sz ∧ ∀ j u, cs[j]? = some u → w.cell? ⟨b, off + k * sz + j, none⟩ = some u := by
  obtain ⟨css, h1, h2, h3, h4, h5, h6⟩ := h
  have hlt : k < l.length := (List.getElem?_eq_some_iff.1 hk).1
  obtain ⟨b, off, e, hx, hb, hc⟩ := h6 (by omega)
  obtain ⟨cs, hcs⟩ : ∃ cs, css[k]? = some cs := ⟨_, List.getElem?_eq_getElem (by omega)⟩
  refine ⟨b, off, cs, e, hx, hb, h3 k a cs hk hcs, h4 cs (List.mem_of_getElem? hcs), fun j u hu => ?_⟩
  rw [Nat.add_assoc]
  exact hc _ _ (flatten_get h4 k cs hcs j u hu)

/-- A row of structs that the call is building: v, of the elements l. -/
def OwnL {α : Type} (R : α → List Value → Prop) (T : TypeId) (sz : Nat) (w : World) (base : Nat) (v : Value) (l : List α) : Prop :=
  ∃ css : List (List Value), css.length = l.length ∧ (∀ (i : Nat) (a : α) (cs : List Value), l[i]? = some a → css[i]? = some cs → R a cs) ∧ (∀ cs ∈ css, cs.length = sz) ∧ w.ownsRow base T sz v l.length css.flatten
section
variable {α : Type} {R R' : α → List Value → Prop} {T : TypeId} {sz base : Nat} {w w' : World} {v v' : Value} {l : List α}
theorem OwnL.nil (w : World) (base : Nat) : OwnL R T sz w base (.slice none 0 0) [] := ⟨[], rfl, by simp, by simp, World.ownsRow_nil _ _ _ _⟩
theorem OwnL.form (h : OwnL R T sz w base v l) : ∃ A c, v = .slice A l.length c ∧ l.length ≤ c := by
  obtain ⟨_, _, _, _, h4⟩ := h
  exact own_form h4
theorem OwnL.weak (hR : ∀ a cs, R a cs → R' a cs) (h : OwnL R T sz w base v l) : OwnL R' T sz w base v l := by
  obtain ⟨css, h1, h2, h3, h4⟩ := h
  exact ⟨css, h1, fun i a cs ha hc => hR a cs (h2 i a cs ha hc), h3, h4⟩
theorem OwnL.kept (hw : ∀ n xs, w.ownsRow base T sz v n xs → w'.ownsRow base T sz v n xs) (hR : ∀ a cs, R a cs → R' a cs) (h : OwnL R T sz w base v l) : OwnL R' T sz w' base v l := by
  obtain ⟨css, h1, h2, h3, h4⟩ := h
  exact ⟨css, h1, fun i a cs ha hc => hR a cs (h2 i a cs ha hc), h3, hw _ _ h4⟩
theorem OwnL.done {A : Option Addr} {c : Nat} {X : Nat → Prop} (h : OwnL R T sz w base (.slice A l.length c) l) (hR : ∀ a cs, R a cs → R' a cs) (hX : ∀ b, (Value.slice A l.length c).ownBlock = some b → X b) : ListX R' w X sz A l.length l := by
  obtain ⟨css, h1, h2, h3, h4⟩ := h
  exact ⟨css, rfl, h1, fun i a cs ha hc => hR a cs (h2 i a cs ha hc), h3, RdX.of_own h4 hX⟩
end
theorem OwnL.push {α : Type} {R R' : α → List Value → Prop} {T : TypeId} {sz base : Nat} {w w' : World} {v v' : Value} {l : List α} {css : List (List Value)} {a : α} {cs : List Value}
    (h1 : css.length = l.length) (h2 : ∀ (i : Nat) (a : α) (cs : List Value), l[i]? = some a → css[i]? = some cs → R a cs) (h3 : ∀ cs ∈ css, cs.length = sz)
    (hR : ∀ a cs, R a cs → R' a cs) (ha : R' a cs) (hcs : cs.length = sz) (happ : Appended base T sz v w (l.length + 1) (css.flatten ++ cs) v' w') : OwnL R' T sz w' base v' (l ++ [a]) := by
  refine ⟨css ++ [cs], by simp [h1], ?_, ?_, ?_⟩
  · intro i x ds hx hd
    rcases Nat.lt_or_ge i l.length with hi | hi
    · rw [List.getElem?_append_left hi] at hx
      rw [List.getElem?_append_left (by omega)] at hd
      exact hR x ds (h2 i x ds hx hd)
    · rw [List.getElem?_append_right hi] at hx
      rw [List.getElem?_append_right (by omega), h1] at hd
      have hi0 : i - l.length = 0 := by
        have := (List.getElem?_eq_some_iff.1 hx).1
        simp at this
        omega
      rw [hi0] at hx hd
      simp at hx hd
      subst hx hd
      exact ha
  · intro ds hd
    rcases List.mem_append.1 hd with hd | hd
    · exact h3 ds hd
    · simp at hd; subst hd; exact hcs
  · have e : (css ++ [cs]).flatten = css.flatten ++ cs := by simp
    have e2 : (l ++ [a]).length = l.length + 1 := by simp
    rw [e, e2]
    exact happ.own

/-! ### Sets, lists of sets, rules, passes, scripts -/
structure RuleD where
  start : Bool
  fin : Bool
  before : List Spans
  source : List Spans
  after : List Spans
  target : List Int
  cursor : Int
structure PassD where
  name : ByteArray
  rules : List RuleD
structure ScriptD where
  only? : Bool
  only : Spans
  passes : List PassD

def SetV (w : World) (X : Nat → Prop) (s : Spans) (u : Value) : Prop := ∃ A n c, u = .slice A n c ∧ RdX w X 2 A n (spanCells s) ∧ n ≤ maxLen
def SetC (w : World) (X : Nat → Prop) (s : Spans) (cs : List Value) : Prop := ∃ u, cs = [u] ∧ SetV w X s u
def SetsV (w : World) (X : Nat → Prop) (l : List Spans) (u : Value) : Prop := ∃ A n c, u = .slice A n c ∧ ListX (SetC w X) w X 1 A n l ∧ n ≤ maxLen
def RuleC (w : World) (X : Nat → Prop) (r : RuleD) (cs : List Value) : Prop :=
  ∃ u1 u2 u3 A n c, cs = [.bool r.start, .bool r.fin, u1, u2, u3, .slice A n c, .int .i64 r.cursor] ∧ SetsV w X r.before u1 ∧ SetsV w X r.source u2 ∧ SetsV w X r.after u3 ∧ RdX w X 1 A n (runeCells r.target) ∧ n ≤ maxLen
def RulesV (w : World) (X : Nat → Prop) (l : List RuleD) (u : Value) : Prop := ∃ A n c, u = .slice A n c ∧ ListX (RuleC w X) w X 7 A n l ∧ n ≤ maxLen
def PassC (w : World) (X : Nat → Prop) (p : PassD) (cs : List Value) : Prop := ∃ u, cs = [.string p.name, u] ∧ RulesV w X p.rules u
def PassesV (w : World) (X : Nat → Prop) (l : List PassD) (u : Value) : Prop := ∃ A n c, u = .slice A n c ∧ ListX (PassC w X) w X 2 A n l ∧ n ≤ maxLen
def ScriptC (w : World) (X : Nat → Prop) (s : ScriptD) (cs : List Value) : Prop := ∃ u v, cs = [.bool s.only?, u, v] ∧ SetV w X s.only u ∧ PassesV w X s.passes v
section
variable {w w' : World} {X X' : Nat → Prop} (hk : Keeps w X w' X')
include hk
theorem SetV.keep {s : Spans} {u : Value} (h : SetV w X s u) : SetV w' X' s u := by
  obtain ⟨A, n, c, e, h1, h2⟩ := h
  exact ⟨A, n, c, e, h1.keep hk, h2⟩
theorem SetC.keep {s : Spans} {cs : List Value} (h : SetC w X s cs) : SetC w' X' s cs := by
  obtain ⟨u, e, h⟩ := h
  exact ⟨u, e, h.keep hk⟩
theorem SetsV.keep {l : List Spans} {u : Value} (h : SetsV w X l u) : SetsV w' X' l u := by
  obtain ⟨A, n, c, e, h1, h2⟩ := h
  exact ⟨A, n, c, e, h1.keep hk (fun _ _ => SetC.keep hk), h2⟩
theorem RuleC.keep {r : RuleD} {cs : List Value} (h : RuleC w X r cs) : RuleC w' X' r cs := by
  obtain ⟨u1, u2, u3, A, n, c, e, h1, h2, h3, h4, h5⟩ := h
  exact ⟨u1, u2, u3, A, n, c, e, h1.keep hk, h2.keep hk, h3.keep hk, h4.keep hk, h5⟩
theorem RulesV.keep {l : List RuleD} {u : Value} (h : RulesV w X l u) : RulesV w' X' l u := by
  obtain ⟨A, n, c, e, h1, h2⟩ := h
  exact ⟨A, n, c, e, h1.keep hk (fun _ _ => RuleC.keep hk), h2⟩
theorem PassC.keep {p : PassD} {cs : List Value} (h : PassC w X p cs) : PassC w' X' p cs := by
  obtain ⟨u, e, h⟩ := h
  exact ⟨u, e, h.keep hk⟩
theorem PassesV.keep {l : List PassD} {u : Value} (h : PassesV w X l u) : PassesV w' X' l u := by
  obtain ⟨A, n, c, e, h1, h2⟩ := h
  exact ⟨A, n, c, e, h1.keep hk (fun _ _ => PassC.keep hk), h2⟩
theorem ScriptC.keep {s : ScriptD} {cs : List Value} (h : ScriptC w X s cs) : ScriptC w' X' s cs := by
  obtain ⟨u, v, e, h1, h2⟩ := h
  exact ⟨u, v, e, h1.keep hk, h2.keep hk⟩
end

/-! ### Rows of the call's own, side by side -/
theorem own_lt {wx : World} {v : Value} {base sz n : Nat} {e : TypeId} {xs : List Value} (h : wx.ownsRow base e sz v n xs) {b : Nat} (hb : v.ownBlock = some b) : base ≤ b ∧ b < wx.heap.size := World.ownsRow.lt h b hb
theorem own_ne_blk' {w : World} {g base sz n : Nat} {t e : TypeId} {cs : Array Value} {fz : Nat × Nat} {v : Value} {xs : List Value} (ho : w.ownsRow base e sz v n xs) (h : w.heap[g]? = some (.cells cs t fz)) (hne : t ≠ e) : v.ownBlock ≠ some g := by
  rcases ho.2 with ⟨rfl, _⟩ | ⟨g2, cap, cur, rfl, _, hg, _⟩
  · simp [Value.ownBlock]
  · simp only [Value.ownBlock, ne_eq, Option.some.injEq]
    rintro rfl
    rw [h] at hg
    injection hg with hg
    injection hg with _ ht
    exact hne ht
section
variable {lo : Nat} {w2 : World}
theorem kept_row {e e2 : TypeId} {sz sz2 n m : Nat} {v u u' : Value} {xs ys : List Value} {w0 : World} (h : w0.ownsRow lo e sz v n xs) (ha : Appended lo e2 sz2 u w0 m ys u' w2) (hne : v.ownBlock ≠ u.ownBlock ∨ v.ownBlock = none) : w2.ownsRow lo e sz v n xs := by
  refine World.ownsRow.kept h ha.2.1 ?_
  rcases hne with h | h
  · exact .inr h
  · exact .inl h
theorem ne_of_types {e e2 : TypeId} {sz sz2 n m : Nat} {v u : Value} {xs ys : List Value} {w0 : World} (h : w0.ownsRow lo e sz v n xs) (h2 : w0.ownsRow lo e2 sz2 u m ys) (hne : e ≠ e2) : v.ownBlock ≠ u.ownBlock ∨ v.ownBlock = none := by
  rcases h.2 with ⟨hv, _⟩ | ⟨g, cap, cur, hv, _, hg, _⟩
  · right; rw [hv]; rfl
  · left
    rw [hv]
    intro e
    exact own_ne_blk' h2 hg hne e.symm
theorem ne_of_apart {u v : Value} (h : ∀ b, u.ownBlock = some b → v.ownBlock ≠ some b) : v.ownBlock ≠ u.ownBlock ∨ v.ownBlock = none := by
  cases hv : v.ownBlock with
  | none => exact .inr rfl
  | some b =>
    left
    intro e
    exact h b e.symm hv
end
theorem own_setCell_ne {w : World} {base sz n g i : Nat} {e t : TypeId} {v u : Value} {xs : List Value} {cs : Array Value} (h : w.ownsRow base e sz v n xs) (hb : Blk w g t cs) (hne : t ≠ e) : (w.setCell ⟨g, i, none⟩ u).ownsRow base e sz v n xs := by
  rcases h.2 with ⟨hv, h0⟩ | ⟨k, cap, cur, hv, h1, h2, h3⟩
  · exact ⟨h.1, .inl ⟨hv, h0⟩⟩
  · refine ⟨h.1, .inr ⟨k, cap, cur, hv, h1, ?_, h3⟩⟩
    rw [Below.heap_setCell _ _ _ _ ?_]
    · exact h2
    · intro e
      simp only at e
      subst e
      unfold Blk at hb
      rw [hb] at h2
      injection h2 with h2
      injection h2 with _ ht
      exact hne ht
theorem blk_app {w w' : World} {g base sz n m : Nat} {t e : TypeId} {cs : Array Value} {v v' : Value} {xs ys : List Value} (h : Blk w g t cs) (ho : w.ownsRow base e sz v n xs) (hne : t ≠ e) (ha : Appended base e sz v w m ys v' w') : Blk w' g t cs := by
  have hlt := h.lt
  unfold Blk at h ⊢
  rw [ha.2.1.block g hlt ?_]
  · exact h
  · intro he
    rcases ho.2 with ⟨rfl, _⟩ | ⟨g2, cap, cur, rfl, _, hg, _⟩
    · simp [Value.ownBlock] at he
    · simp only [Value.ownBlock, Option.some.injEq] at he
      subst he
      rw [h] at hg
      injection hg with hg
      injection hg with _ ht
      exact hne ht
theorem own_ne_blk {w : World} {g base sz n : Nat} {t e : TypeId} {cs : Array Value} {v : Value} {xs : List Value} (ho : w.ownsRow base e sz v n xs) (h : Blk w g t cs) (hne : t ≠ e) : v.ownBlock ≠ some g := by
  rcases ho.2 with ⟨rfl, _⟩ | ⟨g2, cap, cur, rfl, _, hg, _⟩
  · simp [Value.ownBlock]
  · simp only [Value.ownBlock, ne_eq, Option.some.injEq]
    rintro rfl
    unfold Blk at h
    rw [h] at hg
    injection hg with hg
    injection hg with _ ht
    exact hne ht
theorem own_set_lt {w : World} {lo sz n g i : Nat} {e : TypeId} {v u : Value} {xs : List Value} (h : w.ownsRow lo e sz v n xs) (hg : g < lo) : (w.setCell ⟨g, i, none⟩ u).ownsRow lo e sz v n xs := by
  rcases h.2 with ⟨hv, h0⟩ | ⟨k, cap, cur, hv, h1, h2, h3⟩
  · exact ⟨h.1, .inl ⟨hv, h0⟩⟩
  · refine ⟨h.1, .inr ⟨k, cap, cur, hv, h1, ?_, h3⟩⟩
    rw [Below.heap_setCell _ _ _ _ (show k ≠ g by omega)]
    exact h2
theorem runeCells_snoc (l : List Int) (x : Int) : runeCells (l ++ [x]) = runeCells l ++ [.int .i32 x] := by simp [runeCells]
theorem intCells_snoc (l : List Int) (x : Int) : intCells (l ++ [x]) = intCells l ++ [.int .i64 x] := by simp [intCells]

/-! ### Numbers, heads -/
structure HeadD where
  low : Int
  high : Int
  rules : List Int
def IntsV (w : World) (X : Nat → Prop) (l : List Int) (u : Value) : Prop := ∃ A n c, u = .slice A n c ∧ RdX w X 1 A n (intCells l) ∧ n ≤ maxLen
def HeadC (w : World) (X : Nat → Prop) (h : HeadD) (cs : List Value) : Prop := ∃ u, cs = [.int .i32 h.low, .int .i32 h.high, u] ∧ IntsV w X h.rules u
def HeadsV (w : World) (X : Nat → Prop) (l : List HeadD) (u : Value) : Prop := ∃ A n c, u = .slice A n c ∧ ListX (HeadC w X) w X 3 A n l ∧ n ≤ maxLen
section
variable {w w' : World} {X X' : Nat → Prop} (hk : Keeps w X w' X')
include hk
theorem IntsV.keep {l : List Int} {u : Value} (h : IntsV w X l u) : IntsV w' X' l u := by
  obtain ⟨A, n, c, e, h1, h2⟩ := h
  exact ⟨A, n, c, e, h1.keep hk, h2⟩
theorem HeadC.keep {h : HeadD} {cs : List Value} (hh : HeadC w X h cs) : HeadC w' X' h cs := by
  obtain ⟨u, e, h1⟩ := hh
  exact ⟨u, e, h1.keep hk⟩
theorem HeadsV.keep {l : List HeadD} {u : Value} (h : HeadsV w X l u) : HeadsV w' X' l u := by
  obtain ⟨A, n, c, e, h1, h2⟩ := h
  exact ⟨A, n, c, e, h1.keep hk (fun _ _ => HeadC.keep hk), h2⟩
end
theorem IntsV.len {w : World} {X : Nat → Prop} {l : List Int} {A : Option Addr} {n c : Nat} (h : IntsV w X l (.slice A n c)) : l.length = n ∧ n ≤ maxLen := by
  obtain ⟨A', n', c', e, h1, h2⟩ := h
  cases e
  have := h1.1
  simp [intCells] at this
  exact ⟨this, h2⟩
/-- All of memory. -/
def Any0 (_ : Nat) : Prop := True
theorem Keeps.any {w w' : World} {X : Nat → Prop} (hb : Below w.heap.size w w') : Keeps w X w' X := Keeps.below hb (fun _ h _ => h)
theorem RdX.of {w : World} {X : Nat → Prop} {sz n : Nat} {A : Option Addr} {xs : List Value} (h : RdX w X sz A n xs) : Rd w w.heap.size sz A n xs := h.rd (fun _ _ h => h)
/-- One set of a list of sets. -/
theorem sets_at {w : World} {X : Nat → Prop} {A : Option Addr} {n : Nat} {l : List Spans} (h : ListX (SetC w X) w X 1 A n l) {k : Nat} {s : Spans} (hk : l[k]? = some s) :
    ∃ (b off : Nat) (A' : Option Addr) (n' c' : Nat), A = some ⟨b, off, none⟩ ∧ X b ∧ b < w.heap.size ∧ w.cell? ⟨b, off + k, none⟩ = some (.slice A' n' c') ∧ RdS w w.heap.size A' n' s ∧ RdX w X 2 A' n' (spanCells s) ∧ n' ≤ maxLen := by
  obtain ⟨b, off, cs, e, hx, hb, ⟨u, rfl, A', n', c', rfl, h1, h2⟩, _, hc⟩ := h.at hk
  have := hc 0 _ rfl
  rw [Nat.mul_one, Nat.add_zero] at this
  exact ⟨b, off, A', n', c', e, hx, hb, this, h1.of, h1, h2⟩

end Go.Proofs.YthnhbcohfoodlaaGreatDoor
