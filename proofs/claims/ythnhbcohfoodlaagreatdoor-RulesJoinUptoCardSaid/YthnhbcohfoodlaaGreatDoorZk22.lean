/- RuleFoot + PartX + SameItems -/
import Derived.Test.YthnhbcohfoodlaaGreatDoorZk16
import Derived.Test.YthnhbcohfoodlaaGreatDoorZk13
import Derived.Test.YthnhbcohfoodlaaGreatDoorZk11
import Derived.Test.YthnhbcohfoodlaaGreatDoorZk4
import Derived.Deep.Strs
import Derived.Test.YthnhbcohfoodlaaGreatDoorZk20
import Derived.Test.YthnhbcohfoodlaaGreatDoorZk14
namespace Go.Proofs.YthnhbcohfoodlaaGreatDoor
open Go.RowKit
def RdX (w : World) (X : Nat → Prop) (sz : Nat) (A : Option Addr) (n : Nat) (xs : List Value) : Prop :=
  xs.length = n * sz ∧ (0 < n → ∃ b off, A = some ⟨b, off, none⟩ ∧ X b ∧ b < w.heap.size ∧ ∀ j u, xs[j]? = some u → w.cell? ⟨b, off + j, none⟩ = some u)
def Keeps (w : World) (X : Nat → Prop) (w' : World) (X' : Nat → Prop) : Prop := ∀ b, X b → b < w.heap.size → w'.heap[b]? = w.heap[b]? ∧ X' b ∧ b < w'.heap.size
section
variable {w w' w2 : World} {X X' X2 : Nat → Prop} {sz n : Nat} {A : Option Addr} {xs : List Value}
theorem Keeps.refl (h : ∀ b, X b → X' b) : Keeps w X w X' := fun b hb hl => ⟨rfl, h b hb, hl⟩
theorem Keeps.trans (h : Keeps w X w' X') (h2 : Keeps w' X' w2 X2) : Keeps w X w2 X2 := fun b hb hl =>
  let ⟨e, hx, hl'⟩ := h b hb hl
  let ⟨e2, hx2, hl2⟩ := h2 b hx hl'
  ⟨e2.trans e, hx2, hl2⟩
theorem Keeps.below (hb : Below w.heap.size w w') (h : ∀ b, X b → b < w.heap.size → X' b) : Keeps w X w' X' := fun b hx hl => ⟨hb.block b hl, h b hx hl, Nat.lt_of_lt_of_le hl hb.size⟩
theorem Keeps.alloc (o : Obj) (h : ∀ b, X b → b < w.heap.size → X' b) : Keeps w X (w.alloc o) X' := fun b hx hl => ⟨heap_alloc_old w o hl, h b hx hl, by simp; omega⟩
theorem Keeps.app {base n : Nat} {e : TypeId} {v v' : Value} (ha : Appended base e sz v w n xs v' w') (hX : ∀ b, X b → v.ownBlock ≠ some b) (h : ∀ b, X b → b < w.heap.size → X' b) : Keeps w X w' X' :=
  fun b hx hl => ⟨ha.2.1.block b hl (fun e => hX b hx e.symm), h b hx hl, Nat.lt_of_lt_of_le hl ha.2.1.size⟩
theorem Keeps.setCell {p : Addr} (u : Value) (hX : ∀ b, X b → b ≠ p.block) (h : ∀ b, X b → b < w.heap.size → X' b) : Keeps w X (w.setCell p u) X' :=
  fun b hx hl => ⟨Below.heap_setCell _ _ _ _ (hX b hx), h b hx hl, by simpa using hl⟩
theorem RdX.keep (hk : Keeps w X w' X') (h : RdX w X sz A n xs) : RdX w' X' sz A n xs := by
  refine ⟨h.1, fun hn => ?_⟩
  obtain ⟨b, off, e, hx, hl, hc⟩ := h.2 hn
  obtain ⟨he, hx', hl'⟩ := hk b hx hl
  exact ⟨b, off, e, hx', hl', fun j u hu => (World.cell?_of_block (w := w) he).trans (hc j u hu)⟩
theorem RdX.rd {B : Nat} (h : RdX w X sz A n xs) (hB : ∀ b, X b → b < w.heap.size → b < B) : Rd w B sz A n xs :=
  ⟨h.1, fun hn => let ⟨b, off, e, hx, hl, hc⟩ := h.2 hn; ⟨b, off, e, hB b hx hl, hc⟩⟩
theorem RdX.of_rd {B : Nat} (h : Rd w B sz A n xs) (hB : B ≤ w.heap.size) (hX : ∀ b, b < B → X b) : RdX w X sz A n xs :=
  ⟨h.1, fun hn => let ⟨b, off, e, hb, hc⟩ := h.2 hn; ⟨b, off, e, hX b hb, Nat.lt_of_lt_of_le hb hB, hc⟩⟩
theorem RdX.of_own {base c : Nat} {e : TypeId} (h : w.ownsRow base e sz (.slice A n c) n xs) (hX : ∀ b, (Value.slice A n c).ownBlock = some b → X b) : RdX w X sz A n xs := by
  refine ⟨h.1, fun hn => ?_⟩
  rcases h.2 with ⟨hv, h0⟩ | ⟨g, cap, cur, hv, hg, hh, hr⟩
  · omega
  · injection hv with hA
    subst hA
    refine ⟨g, 0, rfl, hX g rfl, (Array.getElem?_eq_some_iff.1 hh).1, fun j u hu => ?_⟩
    have := World.ownsRow.cells h (g := g) rfl j u hu
    rwa [add_at] at this
theorem RdX.new (t : TypeId) (cs : List Value) (hl : cs.length = n * sz) (hX : X w.heap.size) : RdX (w.alloc (.cells cs.toArray t)) X sz (some ⟨w.heap.size, 0, none⟩) n cs := by
  refine ⟨hl, fun _ => ⟨_, _, rfl, hX, by simp, fun j u hu => ?_⟩⟩
  rw [(Blk.new w t cs.toArray).cell, Nat.zero_add]
  simpa using hu
end
def ListX {α : Type} (R : α → List Value → Prop) (w : World) (X : Nat → Prop) (sz : Nat) (A : Option Addr) (n : Nat) (l : List α) : Prop :=
  ∃ css : List (List Value), l.length = n ∧ css.length = n ∧ (∀ (i : Nat) (a : α) (cs : List Value), l[i]? = some a → css[i]? = some cs → R a cs) ∧ (∀ cs ∈ css, cs.length = sz) ∧ RdX w X sz A n css.flatten
theorem ListX.len {α : Type} {R : α → List Value → Prop} {w : World} {X : Nat → Prop} {sz n : Nat} {A : Option Addr} {l : List α} (h : ListX R w X sz A n l) : l.length = n := by
  obtain ⟨_, h1, _⟩ := h
  exact h1
theorem ListX.keep {α : Type} {R R' : α → List Value → Prop} {w w' : World} {X X' : Nat → Prop} {sz n : Nat} {A : Option Addr} {l : List α} (hk : Keeps w X w' X') (hR : ∀ a cs, R a cs → R' a cs) (h : ListX R w X sz A n l) : ListX R' w' X' sz A n l := by
  obtain ⟨css, h1, h2, h3, h4, h5⟩ := h
  exact ⟨css, h1, h2, fun i a cs ha hc => hR a cs (h3 i a cs ha hc), h4, h5.keep hk⟩
theorem ListX.at {α : Type} {R : α → List Value → Prop} {w : World} {X : Nat → Prop} {sz n : Nat} {A : Option Addr} {l : List α} (h : ListX R w X sz A n l) {k : Nat} {a : α} (hk : l[k]? = some a) :
    ∃ (b off : Nat) (cs : List Value), A = some ⟨b, off, none⟩ ∧ X b ∧ b < w.heap.size ∧ R a cs ∧ cs.length = sz ∧ ∀ j u, cs[j]? = some u → w.cell? ⟨b, off + k * sz + j, none⟩ = some u := by
  obtain ⟨css, h1, h2, h3, h4, h5, h6⟩ := h
  have hlt : k < l.length := (List.getElem?_eq_some_iff.1 hk).1
  obtain ⟨b, off, e, hx, hb, hc⟩ := h6 (by omega)
  obtain ⟨cs, hcs⟩ : ∃ cs, css[k]? = some cs := ⟨_, List.getElem?_eq_getElem (by omega)⟩
  refine ⟨b, off, cs, e, hx, hb, h3 k a cs hk hcs, h4 cs (List.mem_of_getElem? hcs), fun j u hu => ?_⟩
  rw [Nat.add_assoc]
  exact hc _ _ (flatten_get h4 k cs hcs j u hu)
def OwnL {α : Type} (R : α → List Value → Prop) (T : TypeId) (sz : Nat) (w : World) (base : Nat) (v : Value) (l : List α) : Prop :=
  ∃ css : List (List Value), css.length = l.length ∧ (∀ (i : Nat) (a : α) (cs : List Value), l[i]? = some a → css[i]? = some cs → R a cs) ∧ (∀ cs ∈ css, cs.length = sz) ∧ w.ownsRow base T sz v l.length css.flatten
section
variable {α : Type} {R R' : α → List Value → Prop} {T : TypeId} {sz base : Nat} {w w' : World} {v v' : Value} {l : List α}
theorem OwnL.nil (w : World) (base : Nat) : OwnL R T sz w base (.slice none 0 0) [] := ⟨[], rfl, by simp, by simp, World.ownsRow_nil _ _ _ _⟩
theorem OwnL.form (h : OwnL R T sz w base v l) : ∃ A c, v = .slice A l.length c ∧ l.length ≤ c := by
  obtain ⟨_, _, _, _, h4⟩ := h
  exact own_form h4
theorem OwnL.weak (hR : ∀ a cs, R a cs → R' a cs) (h : OwnL R T sz w base v l) : OwnL R' T sz w base v l := by
  obtain ⟨css, h1, h2, h3, h4⟩ := h
  exact ⟨css, h1, fun i a cs ha hc => hR a cs (h2 i a cs ha hc), h3, h4⟩
theorem OwnL.kept (hw : ∀ n xs, w.ownsRow base T sz v n xs → w'.ownsRow base T sz v n xs) (hR : ∀ a cs, R a cs → R' a cs) (h : OwnL R T sz w base v l) : OwnL R' T sz w' base v l := by
  obtain ⟨css, h1, h2, h3, h4⟩ := h
  exact ⟨css, h1, fun i a cs ha hc => hR a cs (h2 i a cs ha hc), h3, hw _ _ h4⟩
theorem OwnL.done {A : Option Addr} {c : Nat} {X : Nat → Prop} (h : OwnL R T sz w base (.slice A l.length c) l) (hR : ∀ a cs, R a cs → R' a cs) (hX : ∀ b, (Value.slice A l.length c).ownBlock = some b → X b) : ListX R' w X sz A l.length l := by
  obtain ⟨css, h1, h2, h3, h4⟩ := h
  exact ⟨css, rfl, h1, fun i a cs ha hc => hR a cs (h2 i a cs ha hc), h3, RdX.of_own h4 hX⟩
end
theorem OwnL.push {α : Type} {R R' : α → List Value → Prop} {T : TypeId} {sz base : Nat} {w w' : World} {v v' : Value} {l : List α} {css : List (List Value)} {a : α} {cs : List Value}
    (h1 : css.length = l.length) (h2 : ∀ (i : Nat) (a : α) (cs : List Value), l[i]? = some a → css[i]? = some cs → R a cs) (h3 : ∀ cs ∈ css, cs.length = sz)
    (hR : ∀ a cs, R a cs → R' a cs) (ha : R' a cs) (hcs : cs.length = sz) (happ : Appended base T sz v w (l.length + 1) (css.flatten ++ cs) v' w') : OwnL R' T sz w' base v' (l ++ [a]) := by
  refine ⟨css ++ [cs], by simp [h1], ?_, ?_, ?_⟩
  · intro i x ds hx hd
    rcases Nat.lt_or_ge i l.length with hi | hi
    · rw [List.getElem?_append_left hi] at hx
      rw [List.getElem?_append_left (by omega)] at hd
      exact hR x ds (h2 i x ds hx hd)
    · rw [List.getElem?_append_right hi] at hx
      rw [List.getElem?_append_right (by omega), h1] at hd
      have hi0 : i - l.length = 0 := by
        have := (List.getElem?_eq_some_iff.1 hx).1
        simp at this
        omega
      rw [hi0] at hx hd
      simp at hx hd
      subst hx hd
      exact ha
  · intro ds hd
    rcases List.mem_append.1 hd with hd | hd
    · exact h3 ds hd
    · simp at hd; subst hd; exact hcs
  · have e : (css ++ [cs]).flatten = css.flatten ++ cs := by simp
    have e2 : (l ++ [a]).length = l.length + 1 := by simp
    rw [e, e2]
    exact happ.own
def SetV (w : World) (X : Nat → Prop) (s : Spans) (u : Value) : Prop := ∃ A n c, u = .slice A n c ∧ RdX w X 2 A n (spanCells s) ∧ n ≤ maxLen
def SetC (w : World) (X : Nat → Prop) (s : Spans) (cs : List Value) : Prop := ∃ u, cs = [u] ∧ SetV w X s u
section
variable {w w' : World} {X X' : Nat → Prop} (hk : Keeps w X w' X')
include hk
theorem SetV.keep {s : Spans} {u : Value} (h : SetV w X s u) : SetV w' X' s u := by
  obtain ⟨A, n, c, e, h1, h2⟩ := h
  exact ⟨A, n, c, e, h1.keep hk, h2⟩
theorem SetC.keep {s : Spans} {cs : List Value} (h : SetC w X s cs) : SetC w' X' s cs := by
  obtain ⟨u, e, h⟩ := h
  exact ⟨u, e, h.keep hk⟩
end
theorem own_lt {wx : World} {v : Value} {base sz n : Nat} {e : TypeId} {xs : List Value} (h : wx.ownsRow base e sz v n xs) {b : Nat} (hb : v.ownBlock = some b) : base ≤ b ∧ b < wx.heap.size := World.ownsRow.lt h b hb
theorem own_set_lt {w : World} {lo sz n g i : Nat} {e : TypeId} {v u : Value} {xs : List Value} (h : w.ownsRow lo e sz v n xs) (hg : g < lo) : (w.setCell ⟨g, i, none⟩ u).ownsRow lo e sz v n xs := by
  rcases h.2 with ⟨hv, h0⟩ | ⟨k, cap, cur, hv, h1, h2, h3⟩
  · exact ⟨h.1, .inl ⟨hv, h0⟩⟩
  · refine ⟨h.1, .inr ⟨k, cap, cur, hv, h1, ?_, h3⟩⟩
    rw [Below.heap_setCell _ _ _ _ (show k ≠ g by omega)]
    exact h2
def Any0 (_ : Nat) : Prop := True
theorem Keeps.any {w w' : World} {X : Nat → Prop} (hb : Below w.heap.size w w') : Keeps w X w' X := Keeps.below hb (fun _ h _ => h)
theorem RdX.of {w : World} {X : Nat → Prop} {sz n : Nat} {A : Option Addr} {xs : List Value} (h : RdX w X sz A n xs) : Rd w w.heap.size sz A n xs := h.rd (fun _ _ h => h)
theorem sets_at {w : World} {X : Nat → Prop} {A : Option Addr} {n : Nat} {l : List Spans} (h : ListX (SetC w X) w X 1 A n l) {k : Nat} {s : Spans} (hk : l[k]? = some s) :
    ∃ (b off : Nat) (A' : Option Addr) (n' c' : Nat), A = some ⟨b, off, none⟩ ∧ X b ∧ b < w.heap.size ∧ w.cell? ⟨b, off + k, none⟩ = some (.slice A' n' c') ∧ RdS w w.heap.size A' n' s ∧ RdX w X 2 A' n' (spanCells s) ∧ n' ≤ maxLen := by
  obtain ⟨b, off, cs, e, hx, hb, ⟨u, rfl, A', n', c', rfl, h1, h2⟩, _, hc⟩ := h.at hk
  have := hc 0 _ rfl
  rw [Nat.mul_one, Nat.add_zero] at this
  exact ⟨b, off, A', n', c', e, hx, hb, this, h1.of, h1, h2⟩
end Go.Proofs.YthnhbcohfoodlaaGreatDoor

namespace Go.Proofs.YthnhbcohfoodlaaGreatDoor
open Go.RowKit
def ItemX (w : World) (X : Nat → Prop) (a : ItemD) (cs : List Value) : Prop :=
  ∃ A n c, cs = [.int .i64 a.kind, .int .i32 a.rune, .slice A n c, .string a.name] ∧ RdX w X 2 A n (spanCells a.set) ∧ n ≤ maxLen ∧ i64R a.kind ∧ a.name.size ≤ maxLen
def ItemsX (w : World) (X : Nat → Prop) (A : Option Addr) (n : Nat) (l : List ItemD) : Prop := ListX (ItemX w X) w X 4 A n l
def SideX (w : World) (X : Nat → Prop) (s : SideD) (cs : List Value) : Prop :=
  ∃ A1 n1 c1 A2 n2 c2 A3 n3 c3, cs = [.bool s.start, .bool s.fin, .slice A1 n1 c1, .slice A2 n2 c2, .slice A3 n3 c3, .int .i64 s.cursor] ∧
    ItemsX w X A1 n1 s.before ∧ ItemsX w X A2 n2 s.source ∧ ItemsX w X A3 n3 s.after ∧ n1 ≤ maxLen ∧ n2 ≤ maxLen ∧ n3 ≤ maxLen ∧ i64R s.cursor
def PartX (w : World) (X : Nat → Prop) (p : PartD) (cs : List Value) : Prop :=
  ∃ A n c ls rs, cs = [.int .i64 p.kind, .string p.name, .slice A n c, .int .i64 p.dir] ++ ls ++ rs ∧ RdX w X 2 A n (spanCells p.set) ∧ n ≤ maxLen ∧ SideX w X p.left ls ∧ SideX w X p.right rs ∧ i64R p.kind ∧ i64R p.dir ∧ p.name.size ≤ maxLen
def PartsX (w : World) (X : Nat → Prop) (A : Option Addr) (n : Nat) (l : List PartD) : Prop := ListX (PartX w X) w X 16 A n l
section
variable {w w' : World} {X X' : Nat → Prop} (hk : Keeps w X w' X')
include hk
theorem ItemX.keep {a : ItemD} {cs : List Value} (h : ItemX w X a cs) : ItemX w' X' a cs := by
  obtain ⟨A, n, c, e, h1, h2⟩ := h
  exact ⟨A, n, c, e, h1.keep hk, h2⟩
theorem ItemsX.keep {A : Option Addr} {n : Nat} {l : List ItemD} (h : ItemsX w X A n l) : ItemsX w' X' A n l := ListX.keep hk (fun _ _ => ItemX.keep hk) h
theorem SideX.keep {s : SideD} {cs : List Value} (h : SideX w X s cs) : SideX w' X' s cs := by
  obtain ⟨A1, n1, c1, A2, n2, c2, A3, n3, c3, e, h1, h2, h3, h4⟩ := h
  exact ⟨A1, n1, c1, A2, n2, c2, A3, n3, c3, e, h1.keep hk, h2.keep hk, h3.keep hk, h4⟩
theorem PartX.keep {p : PartD} {cs : List Value} (h : PartX w X p cs) : PartX w' X' p cs := by
  obtain ⟨A, n, c, ls, rs, e, h1, h2, h3, h4, h5⟩ := h
  exact ⟨A, n, c, ls, rs, e, h1.keep hk, h2, h3.keep hk, h4.keep hk, h5⟩
theorem PartsX.keep {A : Option Addr} {n : Nat} {l : List PartD} (h : PartsX w X A n l) : PartsX w' X' A n l := ListX.keep hk (fun _ _ => PartX.keep hk) h
end
section
variable {α : Type} {w : World} {B sz n : Nat} {A : Option Addr}
theorem ListX.of_rd {R R' : α → List Value → Prop} {l : List α} (hB : B ≤ w.heap.size) (hR : ∀ a cs, R a cs → R' a cs) (h : RdL R w B sz A n l) : ListX R' w (· < B) sz A n l := by
  obtain ⟨css, h1, h2, h3, h4, h5⟩ := h
  exact ⟨css, h1, h2, fun i a cs ha hc => hR a cs (h3 i a cs ha hc), h4, RdX.of_rd h5 hB (fun _ h => h)⟩
theorem ItemX.of_c (hB : B ≤ w.heap.size) {a : ItemD} {cs : List Value} (h : ItemC w B a cs) : ItemX w (· < B) a cs := by
  obtain ⟨A, n, c, e, h1, h2⟩ := h
  exact ⟨A, n, c, e, RdX.of_rd h1 hB (fun _ h => h), h2⟩
theorem ItemsX.of_rd (hB : B ≤ w.heap.size) {l : List ItemD} (h : RdIt w B A n l) : ItemsX w (· < B) A n l := ListX.of_rd hB (fun _ _ => ItemX.of_c hB) h
theorem SideX.of_c (hB : B ≤ w.heap.size) {s : SideD} {cs : List Value} (h : SideC w B s cs) : SideX w (· < B) s cs := by
  obtain ⟨A1, n1, c1, A2, n2, c2, A3, n3, c3, e, h1, h2, h3, h4⟩ := h
  exact ⟨A1, n1, c1, A2, n2, c2, A3, n3, c3, e, .of_rd hB h1, .of_rd hB h2, .of_rd hB h3, h4⟩
theorem PartX.of_c (hB : B ≤ w.heap.size) {p : PartD} {cs : List Value} (h : PartC w B p cs) : PartX w (· < B) p cs := by
  obtain ⟨A, n, c, ls, rs, e, h1, h2, h3, h4, h5⟩ := h
  exact ⟨A, n, c, ls, rs, e, RdX.of_rd h1 hB (fun _ h => h), h2, .of_c hB h3, .of_c hB h4, h5⟩
theorem PartsX.of_rd (hB : B ≤ w.heap.size) {l : List PartD} (h : RdP w B A n l) : PartsX w (· < B) A n l := ListX.of_rd hB (fun _ _ => PartX.of_c hB) h
variable {X : Nat → Prop}
theorem ListX.rd {R R' : α → List Value → Prop} {l : List α} (hR : ∀ a cs, R a cs → R' a cs) (h : ListX R w X sz A n l) : RdL R' w w.heap.size sz A n l := by
  obtain ⟨css, h1, h2, h3, h4, h5⟩ := h
  exact ⟨css, h1, h2, fun i a cs ha hc => hR a cs (h3 i a cs ha hc), h4, h5.rd (fun _ _ h => h)⟩
theorem ItemX.rd {a : ItemD} {cs : List Value} (h : ItemX w X a cs) : ItemC w w.heap.size a cs := by
  obtain ⟨A, n, c, e, h1, h2⟩ := h
  exact ⟨A, n, c, e, h1.rd (fun _ _ h => h), h2⟩
theorem ItemsX.rd {l : List ItemD} (h : ItemsX w X A n l) : RdIt w w.heap.size A n l := ListX.rd (fun _ _ => ItemX.rd) h
theorem SideX.rd {s : SideD} {cs : List Value} (h : SideX w X s cs) : SideC w w.heap.size s cs := by
  obtain ⟨A1, n1, c1, A2, n2, c2, A3, n3, c3, e, h1, h2, h3, h4⟩ := h
  exact ⟨A1, n1, c1, A2, n2, c2, A3, n3, c3, e, h1.rd, h2.rd, h3.rd, h4⟩
theorem PartX.rd {p : PartD} {cs : List Value} (h : PartX w X p cs) : PartC w w.heap.size p cs := by
  obtain ⟨A, n, c, ls, rs, e, h1, h2, h3, h4, h5⟩ := h
  exact ⟨A, n, c, ls, rs, e, h1.rd (fun _ _ h => h), h2, h3.rd, h4.rd, h5⟩
theorem PartsX.rd {l : List PartD} (h : PartsX w X A n l) : RdP w w.heap.size A n l := ListX.rd (fun _ _ => PartX.rd) h
theorem ItemX.one {a : ItemD} {cs : List Value} (h : ItemX w X a cs) : cs.length = 4 ∧ ∀ u ∈ cs, u.oneCell' = true := by
  obtain ⟨A, n, c, rfl, _⟩ := h
  refine ⟨rfl, fun u hu => ?_⟩
  simp at hu
  rcases hu with rfl | rfl | rfl | rfl <;> rfl
theorem PartX.one {p : PartD} {cs : List Value} (h : PartX w X p cs) : cs.length = 16 ∧ ∀ u ∈ cs, u.oneCell' = true := by
  obtain ⟨A, n, c, ls, rs, rfl, _, _, ⟨A1, n1, c1, A2, n2, c2, A3, n3, c3, rfl, _⟩, ⟨B1, m1, d1, B2, m2, d2, B3, m3, d3, rfl, _⟩, _⟩ := h
  refine ⟨rfl, fun u hu => ?_⟩
  simp at hu
  rcases hu with rfl | rfl | rfl | rfl | rfl | rfl | rfl | rfl | rfl | rfl | rfl | rfl | rfl | rfl | rfl | rfl <;> rfl
theorem PartX.form {q : PartD} {cs : List Value} (h : PartX w X q cs) : ∃ A' n' c' L1 a1 x1 L2 a2 x2 L3 a3 x3 R1 b1 y1 R2 b2 y2 R3 b3 y3, cs = [.int .i64 q.kind, .string q.name, .slice A' n' c', .int .i64 q.dir, .bool q.left.start, .bool q.left.fin, .slice L1 a1 x1, .slice L2 a2 x2, .slice L3 a3 x3, .int .i64 q.left.cursor, .bool q.right.start, .bool q.right.fin, .slice R1 b1 y1, .slice R2 b2 y2, .slice R3 b3 y3, .int .i64 q.right.cursor] := by
  obtain ⟨A, n, c, ls, rs, rfl, _, _, ⟨A1, n1, c1, A2, n2, c2, A3, n3, c3, rfl, _⟩, ⟨B1, m1, d1, B2, m2, d2, B3, m3, d3, rfl, _⟩, _⟩ := h
  exact ⟨A, n, c, A1, n1, c1, A2, n2, c2, A3, n3, c3, B1, m1, d1, B2, m2, d2, B3, m3, d3, rfl⟩
theorem RdX.nil (sz : Nat) : RdX w X sz none 0 [] := ⟨by simp, fun h => absurd h (Nat.lt_irrefl 0)⟩
theorem ItemsX.nil : ItemsX w X none 0 [] := ⟨[], rfl, rfl, by simp, by simp, RdX.nil 4⟩
theorem zero_side : SideX w X zeroS [.bool false, .bool false, .slice none 0 0, .slice none 0 0, .slice none 0 0, .int .i64 0] :=
  ⟨none, 0, 0, none, 0, 0, none, 0, 0, rfl, ItemsX.nil, ItemsX.nil, ItemsX.nil, Nat.zero_le _, Nat.zero_le _, Nat.zero_le _, by unfold i64R zeroS; dsimp only; omega⟩
end
theorem infoPartZ : (Tryz.prog.info? 98).map (fun i => (i.zero, i.size, i.bytes)) = some (some (.agg #[.int .i64 0, .string ⟨#[]⟩, .slice none 0 0, .int .i64 0, .bool false, .bool false, .slice none 0 0, .slice none 0 0, .slice none 0 0, .int .i64 0, .bool false, .bool false, .slice none 0 0, .slice none 0 0, .slice none 0 0, .int .i64 0]), 16, 232) := by kernel_rfl
end Go.Proofs.YthnhbcohfoodlaaGreatDoor

namespace Go.Proofs.YthnhbcohfoodlaaGreatDoor
open Go.RowKit
set_option maxHeartbeats 3200000 in
set_option maxRecDepth 100000 in
theorem items_same (A C : Option Addr) (n m c d : Nat) (l : List ItemD) (w : World) (X X' : Nat → Prop) (hn : n ≤ maxLen) (hx : ItemsX w X A n l) (hy : ItemsX w X' C m l) :
    Calls Tryz.prog 106 #[.slice A n c, .slice C m d] w fun e w' => e = .returned (.bool true) ∧ ∃ k, w' = w.drewN k := by
  obtain rfl : n = m := by rw [← hx.len, ← hy.len]
  have hn2 : n ≤ 9223372036854775807 := by unfold maxLen at hn; omega
  have HX := Lib.hid hx
  have HY := Lib.hid hy
  have HL := Lib.hid hx.len
  clear hx hy hn
  go_enter Tryz.func106, Tryz.ntmps106
  go_wp2
  go_loopw [13] (fun i wr => ∃ k q : Nat, k ≤ n ∧ i = .int .i64 k ∧ wr = w.drewN q) (fun i _ => n - (intOf i).toNat)
  case atStart => exact ⟨0, 0, Nat.zero_le _, rfl, rfl⟩
  case round =>
    obtain ⟨k, q, hk, rfl, hwr⟩ := hrel
    by_cases hlt : k < n
    · obtain ⟨a, hz⟩ : ∃ z, l[k]? = some z := ⟨_, List.getElem?_eq_getElem (by rw [HL.out]; exact hlt)⟩
      obtain ⟨b1, o1, cs1, rfl, _, hb1, ⟨A1, n1, e1, rfl, hr1, hm1, _, _⟩, _, g1⟩ := HX.out.at hz
      obtain ⟨b2, o2, cs2, rfl, _, hb2, ⟨A2, n2, e2, rfl, hr2, _, _, _⟩, _, g2⟩ := HY.out.at hz
      have c0 : wr.cell? ⟨b1, o1 + k * 4, none⟩ = some (.int .i64 a.kind) := by rw [hwr]; exact g1 0 _ rfl
      have c1 : wr.cell? ⟨b1, o1 + k * 4 + 1, none⟩ = some (.int .i32 a.rune) := by rw [hwr]; exact g1 1 _ rfl
      have c2 : wr.cell? ⟨b1, o1 + k * 4 + 2, none⟩ = some (.slice A1 n1 e1) := by rw [hwr]; exact g1 2 _ rfl
      have c3 : wr.cell? ⟨b1, o1 + k * 4 + 3, none⟩ = some (.string a.name) := by rw [hwr]; exact g1 3 _ rfl
      have d0 : wr.cell? ⟨b2, o2 + k * 4, none⟩ = some (.int .i64 a.kind) := by rw [hwr]; exact g2 0 _ rfl
      have d1 : wr.cell? ⟨b2, o2 + k * 4 + 1, none⟩ = some (.int .i32 a.rune) := by rw [hwr]; exact g2 1 _ rfl
      have d2 : wr.cell? ⟨b2, o2 + k * 4 + 2, none⟩ = some (.slice A2 n2 e2) := by rw [hwr]; exact g2 2 _ rfl
      have d3 : wr.cell? ⟨b2, o2 + k * 4 + 3, none⟩ = some (.string a.name) := by rw [hwr]; exact g2 3 _ rfl
      have HC := Lib.hid (fun q' => show Calls Tryz.prog 12 #[.slice A1 n1 e1, .slice A2 n2 e2] (wr.drewN q') (fun e w' => e = .returned (.bool true) ∧ ∃ k, w' = (wr.drewN q').drewN k) from by rw [hwr]; exact set_same A1 A2 n1 n2 e1 e2 a.set ((w.drewN q).drewN q') w.heap.size w.heap.size (by unfold maxLen at hm1; omega) (hr1.rd (fun _ _ h => h)) (hr2.rd (fun _ _ h => h)))
      have HW := Lib.hid hwr
      clear hz hr1 hr2 g1 g2 hwr
      go_wp2
      go_quiet ((go_at_call 12; exact Calls.quiet_of (HC.out _)))
      go_wp2
      refine ⟨⟨k + 1, q + nq, by omega, by go_num, by rw [HW.out, World.drewN_drewN]⟩, by simp [intOf]; omega⟩
    · obtain rfl : k = n := by omega
      have HW := Lib.hid hwr
      clear hwr
      go_wp2
      go_ret
      exact ⟨rfl, q, HW.out⟩
set_option maxHeartbeats 3200000 in
set_option maxRecDepth 100000 in
theorem side_same (cs ds : List Value) (s : SideD) (w : World) (X X' : Nat → Prop) (hx : SideX w X s cs) (hy : SideX w X' s ds) :
    Calls Tryz.prog 64 #[.agg cs.toArray, .agg ds.toArray] w fun e w' => e = .returned (.bool true) ∧ Below w.heap.size w w' := by
  obtain ⟨A1, n1, c1, A2, n2, c2, A3, n3, c3, rfl, x1, x2, x3, m1, m2, m3, _⟩ := hx
  obtain ⟨B1, p1, e1, B2, p2, e2, B3, p3, e3, rfl, y1, y2, y3, _, _, _, _⟩ := hy
  have dr : ∀ {W : World} {e : Ending} {w' : World}, (e = Ending.returned (.bool true) ∧ ∃ k, w' = W.drewN k) → e = .returned (.bool true) ∧ Below W.heap.size W w' := fun ⟨he, k, hk⟩ => ⟨he, hk ▸ below_drewN (Below.refl _ _) k⟩
  have hs1 := fun (w' : World) (hb : Below w.heap.size w w') => (items_same A1 B1 n1 p1 c1 e1 s.before w' X X' m1 (x1.keep (Keeps.below hb (fun _ h _ => h))) (y1.keep (Keeps.below hb (fun _ h _ => h)))).mono (fun _ _ h => dr h)
  have hs2 := fun (w' : World) (hb : Below w.heap.size w w') => (items_same A2 B2 n2 p2 c2 e2 s.source w' X X' m2 (x2.keep (Keeps.below hb (fun _ h _ => h))) (y2.keep (Keeps.below hb (fun _ h _ => h)))).mono (fun _ _ h => dr h)
  have hs3 := fun (w' : World) (hb : Below w.heap.size w w') => (items_same A3 B3 n3 p3 c3 e3 s.after w' X X' m3 (x3.keep (Keeps.below hb (fun _ h _ => h))) (y3.keep (Keeps.below hb (fun _ h _ => h)))).mono (fun _ _ h => dr h)
  have HS1 := Lib.hid hs1
  have HS2 := Lib.hid hs2
  have HS3 := Lib.hid hs3
  generalize s.start = st at *
  generalize s.fin = fi at *
  generalize s.cursor = cu at *
  have hk0 := Blk.alloc (Blk.new w 96 #[.bool st, .bool fi, .slice A1 n1 c1, .slice A2 n2 c2, .slice A3 n3 c3, .int .i64 cu]) (.cells #[.bool st, .bool fi, .slice B1 p1 e1, .slice B2 p2 e2, .slice B3 p3 e3, .int .i64 cu] 96)
  have hj0 := Blk.new (w.alloc (.cells #[.bool st, .bool fi, .slice A1 n1 c1, .slice A2 n2 c2, .slice A3 n3 c3, .int .i64 cu] 96)) 96 #[.bool st, .bool fi, .slice B1 p1 e1, .slice B2 p2 e2, .slice B3 p3 e3, .int .i64 cu]
  rw [show (w.alloc (.cells #[.bool st, .bool fi, .slice A1 n1 c1, .slice A2 n2 c2, .slice A3 n3 c3, .int .i64 cu] 96)).heap.size = w.heap.size + 1 by simp] at hj0
  have HK0 := Lib.hid hk0
  have HJ0 := Lib.hid hj0
  have HB0 := Lib.hid (((Below.refl w.heap.size w).alloc (Nat.le_refl _) (.cells #[.bool st, .bool fi, .slice A1 n1 c1, .slice A2 n2 c2, .slice A3 n3 c3, .int .i64 cu] 96)).alloc (by simp) (.cells #[.bool st, .bool fi, .slice B1 p1 e1, .slice B2 p2 e2, .slice B3 p3 e3, .int .i64 cu] 96))
  clear hs1 hs2 hs3 x1 x2 x3 y1 y2 y3 hk0 hj0 dr
  go_enter Tryz.func64, Tryz.ntmps64
  go_wp2_with fail
  refine (HS1.out _ HB0.out).mono ?_
  rintro e w1 ⟨rfl, hb⟩
  have HB1 := Lib.hid (HB0.out.trans (hb.mono HB0.out.size))
  have HK1 := Lib.hid (Blk.below HK0.out hb HK0.out.lt)
  have HJ1 := Lib.hid (Blk.below HJ0.out hb HJ0.out.lt)
  have x1 : w1.cell? ⟨w.heap.size, 3, none⟩ = some (.slice A2 n2 c2) := HK1.out.cell 3
  have y1 : w1.cell? ⟨w.heap.size + 1, 3, none⟩ = some (.slice B2 p2 e2) := HJ1.out.cell 3
  clear hb
  go_wp2_with fail
  refine (HS2.out _ HB1.out).mono ?_
  rintro e w2 ⟨rfl, hb⟩
  have HB2 := Lib.hid (HB1.out.trans (hb.mono HB1.out.size))
  have HK2 := Lib.hid (Blk.below HK1.out hb HK1.out.lt)
  have HJ2 := Lib.hid (Blk.below HJ1.out hb HJ1.out.lt)
  have x2 : w2.cell? ⟨w.heap.size, 4, none⟩ = some (.slice A3 n3 c3) := HK2.out.cell 4
  have y2 : w2.cell? ⟨w.heap.size + 1, 4, none⟩ = some (.slice B3 p3 e3) := HJ2.out.cell 4
  clear hb
  go_wp2_with fail
  refine (HS3.out _ HB2.out).mono ?_
  rintro e w3 ⟨rfl, hb⟩
  have HB3 := Lib.hid (HB2.out.trans (hb.mono HB2.out.size))
  clear hb
  go_wp2_with fail
  go_ret
  exact ⟨rfl, HB3.out⟩
end Go.Proofs.YthnhbcohfoodlaaGreatDoor
