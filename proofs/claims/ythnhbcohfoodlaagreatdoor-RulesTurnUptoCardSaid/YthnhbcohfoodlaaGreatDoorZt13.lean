/- RuleFoot + SetNot + ConcatS -/
import Derived.Test.YthnhbcohfoodlaaGreatDoorZt11
import Derived.Test.YthnhbcohfoodlaaGreatDoorZt6
import Derived.Test.YthnhbcohfoodlaaGreatDoorZt3
import Derived.Deep.Strs
import Derived.Test.YthnhbcohfoodlaaGreatDoorZt9
import Derived.Test.YthnhbcohfoodlaaGreatDoorZt10
import Derived.BigRegion
import Derived.Lib.AppendZeros
import Derived.Lib.SliceRun
namespace Go.Proofs.YthnhbcohfoodlaaGreatDoor
open Go.RowKit
def RdX (w : World) (X : Nat → Prop) (sz : Nat) (A : Option Addr) (n : Nat) (xs : List Value) : Prop :=
 xs.length = n * sz ∧ (0 < n → ∃ b off, A = some ⟨b, off, none⟩ ∧ X b ∧ b < w.heap.size ∧ ∀ j u, xs[j]? = some u → w.cell? ⟨b, off + j, none⟩ = some u)
def Keeps (w : World) (X : Nat → Prop) (w' : World) (X' : Nat → Prop) : Prop := ∀ b, X b → b < w.heap.size → w'.heap[b]? = w.heap[b]? ∧ X' b ∧ b < w'.heap.size
section
variable {w w' w2 : World} {X X' X2 : Nat → Prop} {sz n : Nat} {A : Option Addr} {xs : List Value}
theorem Keeps.refl (h : ∀ b, X b → X' b) : Keeps w X w X' := fun b hb hl => ⟨rfl, h b hb, hl⟩
theorem Keeps.trans (h : Keeps w X w' X') (h2 : Keeps w' X' w2 X2) : Keeps w X w2 X2 := fun b hb hl =>
 let ⟨e, hx, hl'⟩ := h b hb hl
 let ⟨e2, hx2, hl2⟩ := h2 b hx hl'
 ⟨e2.trans e, hx2, hl2⟩
theorem Keeps.below (hb : Below w.heap.size w w') (h : ∀ b, X b → b < w.heap.size → X' b) : Keeps w X w' X' := fun b hx hl => ⟨hb.block b hl, h b hx hl, Nat.lt_of_lt_of_le hl hb.size⟩
theorem Keeps.alloc (o : Obj) (h : ∀ b, X b → b < w.heap.size → X' b) : Keeps w X (w.alloc o) X' := fun b hx hl => ⟨heap_alloc_old w o hl, h b hx hl, by simp; omega⟩
theorem Keeps.app {base n : Nat} {e : TypeId} {v v' : Value} (ha : Appended base e sz v w n xs v' w') (hX : ∀ b, X b → v.ownBlock ≠ some b) (h : ∀ b, X b → b < w.heap.size → X' b) : Keeps w X w' X' :=
 fun b hx hl => ⟨ha.2.1.block b hl (fun e => hX b hx e.symm), h b hx hl, Nat.lt_of_lt_of_le hl ha.2.1.size⟩
theorem Keeps.setCell {p : Addr} (u : Value) (hX : ∀ b, X b → b ≠ p.block) (h : ∀ b, X b → b < w.heap.size → X' b) : Keeps w X (w.setCell p u) X' :=
 fun b hx hl => ⟨Below.heap_setCell _ _ _ _ (hX b hx), h b hx hl, by simpa using hl⟩
theorem RdX.keep (hk : Keeps w X w' X') (h : RdX w X sz A n xs) : RdX w' X' sz A n xs := by
 refine ⟨h.1, fun hn => ?_⟩
 obtain ⟨b, off, e, hx, hl, hc⟩ := h.2 hn
 obtain ⟨he, hx', hl'⟩ := hk b hx hl
 exact ⟨b, off, e, hx', hl', fun j u hu => (World.cell?_of_block (w := w) he).trans (hc j u hu)⟩
theorem RdX.rd {B : Nat} (h : RdX w X sz A n xs) (hB : ∀ b, X b → b < w.heap.size → b < B) : Rd w B sz A n xs :=
 ⟨h.1, fun hn => let ⟨b, off, e, hx, hl, hc⟩ := h.2 hn; ⟨b, off, e, hB b hx hl, hc⟩⟩
theorem RdX.of_rd {B : Nat} (h : Rd w B sz A n xs) (hB : B ≤ w.heap.size) (hX : ∀ b, b < B → X b) : RdX w X sz A n xs :=
 ⟨h.1, fun hn => let ⟨b, off, e, hb, hc⟩ := h.2 hn; ⟨b, off, e, hX b hb, Nat.lt_of_lt_of_le hb hB, hc⟩⟩
theorem RdX.of_own {base c : Nat} {e : TypeId} (h : w.ownsRow base e sz (.slice A n c) n xs) (hX : ∀ b, (Value.slice A n c).ownBlock = some b → X b) : RdX w X sz A n xs := by
 refine ⟨h.1, fun hn => ?_⟩
 rcases h.2 with ⟨hv, h0⟩ | ⟨g, cap, cur, hv, hg, hh, hr⟩
 ·omega
 ·injection hv with hA
  subst hA
  refine ⟨g, 0, rfl, hX g rfl, (Array.getElem?_eq_some_iff.1 hh).1, fun j u hu => ?_⟩
  have := World.ownsRow.cells h (g := g) rfl j u hu
  rwa [add_at] at this
theorem RdX.new (t : TypeId) (cs : List Value) (hl : cs.length = n * sz) (hX : X w.heap.size) : RdX (w.alloc (.cells cs.toArray t)) X sz (some ⟨w.heap.size, 0, none⟩) n cs := by
 refine ⟨hl, fun _ => ⟨_, _, rfl, hX, by simp, fun j u hu => ?_⟩⟩
 rw [(Blk.new w t cs.toArray).cell, Nat.zero_add]
 simpa using hu
end
def ListX {α : Type} (R : α → List Value → Prop) (w : World) (X : Nat → Prop) (sz : Nat) (A : Option Addr) (n : Nat) (l : List α) : Prop :=
 ∃ css : List (List Value), l.length = n ∧ css.length = n ∧ (∀ (i : Nat) (a : α) (cs : List Value), l[i]? = some a → css[i]? = some cs → R a cs) ∧ (∀ cs ∈ css, cs.length = sz) ∧ RdX w X sz A n css.flatten
theorem ListX.len {α : Type} {R : α → List Value → Prop} {w : World} {X : Nat → Prop} {sz n : Nat} {A : Option Addr} {l : List α} (h : ListX R w X sz A n l) : l.length = n := by
 obtain ⟨_, h1, _⟩ := h
 exact h1
theorem ListX.keep {α : Type} {R R' : α → List Value → Prop} {w w' : World} {X X' : Nat → Prop} {sz n : Nat} {A : Option Addr} {l : List α} (hk : Keeps w X w' X') (hR : ∀ a cs, R a cs → R' a cs) (h : ListX R w X sz A n l) : ListX R' w' X' sz A n l := by
 obtain ⟨css, h1, h2, h3, h4, h5⟩ := h
 exact ⟨css, h1, h2, fun i a cs ha hc => hR a cs (h3 i a cs ha hc), h4, h5.keep hk⟩
theorem ListX.at {α : Type} {R : α → List Value → Prop} {w : World} {X : Nat → Prop} {sz n : Nat} {A : Option Addr} {l : List α} (h : ListX R w X sz A n l) {k : Nat} {a : α} (hk : l[k]? = some a) :
 ∃ (b off : Nat) (cs : List Value), A = some ⟨b, off, none⟩ ∧ X b ∧ b < w.heap.size ∧ R a cs ∧ cs.length = sz ∧ ∀ j u, cs[j]? = some u → w.cell? ⟨b, off + k * sz + j, none⟩ = some u := by
 obtain ⟨css, h1, h2, h3, h4, h5, h6⟩ := h
 have hlt : k < l.length := (List.getElem?_eq_some_iff.1 hk).1
 obtain ⟨b, off, e, hx, hb, hc⟩ := h6 (by omega)
 obtain ⟨cs, hcs⟩ : ∃ cs, css[k]? = some cs := ⟨_, List.getElem?_eq_getElem (by omega)⟩
 refine ⟨b, off, cs, e, hx, hb, h3 k a cs hk hcs, h4 cs (List.mem_of_getElem? hcs), fun j u hu => ?_⟩
 rw [Nat.add_assoc]
 exact hc _ _ (flatten_get h4 k cs hcs j u hu)
def OwnL {α : Type} (R : α → List Value → Prop) (T : TypeId) (sz : Nat) (w : World) (base : Nat) (v : Value) (l : List α) : Prop :=
 ∃ css : List (List Value), css.length = l.length ∧ (∀ (i : Nat) (a : α) (cs : List Value), l[i]? = some a → css[i]? = some cs → R a cs) ∧ (∀ cs ∈ css, cs.length = sz) ∧ w.ownsRow base T sz v l.length css.flatten
section
variable {α : Type} {R R' : α → List Value → Prop} {T : TypeId} {sz base : Nat} {w w' : World} {v v' : Value} {l : List α}
theorem OwnL.nil (w : World) (base : Nat) : OwnL R T sz w base (.slice none 0 0) [] := ⟨[], rfl, by simp, by simp, World.ownsRow_nil _ _ _ _⟩
theorem OwnL.form (h : OwnL R T sz w base v l) : ∃ A c, v = .slice A l.length c ∧ l.length ≤ c := by
 obtain ⟨_, _, _, _, h4⟩ := h
 exact own_form h4
theorem OwnL.kept (hw : ∀ n xs, w.ownsRow base T sz v n xs → w'.ownsRow base T sz v n xs) (hR : ∀ a cs, R a cs → R' a cs) (h : OwnL R T sz w base v l) : OwnL R' T sz w' base v l := by
 obtain ⟨css, h1, h2, h3, h4⟩ := h
 exact ⟨css, h1, fun i a cs ha hc => hR a cs (h2 i a cs ha hc), h3, hw _ _ h4⟩
theorem OwnL.done {A : Option Addr} {c : Nat} {X : Nat → Prop} (h : OwnL R T sz w base (.slice A l.length c) l) (hR : ∀ a cs, R a cs → R' a cs) (hX : ∀ b, (Value.slice A l.length c).ownBlock = some b → X b) : ListX R' w X sz A l.length l := by
 obtain ⟨css, h1, h2, h3, h4⟩ := h
 exact ⟨css, rfl, h1, fun i a cs ha hc => hR a cs (h2 i a cs ha hc), h3, RdX.of_own h4 hX⟩
end
theorem OwnL.push {α : Type} {R R' : α → List Value → Prop} {T : TypeId} {sz base : Nat} {w w' : World} {v v' : Value} {l : List α} {css : List (List Value)} {a : α} {cs : List Value}
 (h1 : css.length = l.length) (h2 : ∀ (i : Nat) (a : α) (cs : List Value), l[i]? = some a → css[i]? = some cs → R a cs) (h3 : ∀ cs ∈ css, cs.length = sz)
 (hR : ∀ a cs, R a cs → R' a cs) (ha : R' a cs) (hcs : cs.length = sz) (happ : Appended base T sz v w (l.length + 1) (css.flatten ++ cs) v' w') : OwnL R' T sz w' base v' (l ++ [a]) := by
 refine ⟨css ++ [cs], by simp [h1], ?_, ?_, ?_⟩
 ·intro i x ds hx hd
  rcases Nat.lt_or_ge i l.length with hi | hi
  ·rw [List.getElem?_append_left hi] at hx
   rw [List.getElem?_append_left (by omega)] at hd
   exact hR x ds (h2 i x ds hx hd)
  ·rw [List.getElem?_append_right hi] at hx
   rw [List.getElem?_append_right (by omega), h1] at hd
   have hi0 : i - l.length = 0 := by
    have := (List.getElem?_eq_some_iff.1 hx).1
    simp at this
    omega
   rw [hi0] at hx hd
   simp at hx hd
   subst hx hd
   exact ha
 ·intro ds hd
  rcases List.mem_append.1 hd with hd | hd
  ·exact h3 ds hd
  ·simp at hd; subst hd; exact hcs
 ·have e : (css ++ [cs]).flatten = css.flatten ++ cs := by simp
  have e2 : (l ++ [a]).length = l.length + 1 := by simp
  rw [e, e2]
  exact happ.own
structure RuleD where
 start : Bool
 fin : Bool
 before : List Spans
 source : List Spans
 after : List Spans
 target : List Int
 cursor : Int
structure PassD where
 name : ByteArray
 rules : List RuleD
structure ScriptD where
 only? : Bool
 only : Spans
 passes : List PassD
def SetV (w : World) (X : Nat → Prop) (s : Spans) (u : Value) : Prop := ∃ A n c, u = .slice A n c ∧ RdX w X 2 A n (spanCells s) ∧ n ≤ maxLen
def SetC (w : World) (X : Nat → Prop) (s : Spans) (cs : List Value) : Prop := ∃ u, cs = [u] ∧ SetV w X s u
def SetsV (w : World) (X : Nat → Prop) (l : List Spans) (u : Value) : Prop := ∃ A n c, u = .slice A n c ∧ ListX (SetC w X) w X 1 A n l ∧ n ≤ maxLen
def RuleC (w : World) (X : Nat → Prop) (r : RuleD) (cs : List Value) : Prop :=
 ∃ u1 u2 u3 A n c, cs = [.bool r.start, .bool r.fin, u1, u2, u3, .slice A n c, .int .i64 r.cursor] ∧ SetsV w X r.before u1 ∧ SetsV w X r.source u2 ∧ SetsV w X r.after u3 ∧ RdX w X 1 A n (runeCells r.target) ∧ n ≤ maxLen
def RulesV (w : World) (X : Nat → Prop) (l : List RuleD) (u : Value) : Prop := ∃ A n c, u = .slice A n c ∧ ListX (RuleC w X) w X 7 A n l ∧ n ≤ maxLen
def PassC (w : World) (X : Nat → Prop) (p : PassD) (cs : List Value) : Prop := ∃ u, cs = [.string p.name, u] ∧ RulesV w X p.rules u
def PassesV (w : World) (X : Nat → Prop) (l : List PassD) (u : Value) : Prop := ∃ A n c, u = .slice A n c ∧ ListX (PassC w X) w X 2 A n l ∧ n ≤ maxLen
def ScriptC (w : World) (X : Nat → Prop) (s : ScriptD) (cs : List Value) : Prop := ∃ u v, cs = [.bool s.only?, u, v] ∧ SetV w X s.only u ∧ PassesV w X s.passes v
section
variable {w w' : World} {X X' : Nat → Prop} (hk : Keeps w X w' X')
include hk
theorem SetV.keep {s : Spans} {u : Value} (h : SetV w X s u) : SetV w' X' s u := by
 obtain ⟨A, n, c, e, h1, h2⟩ := h
 exact ⟨A, n, c, e, h1.keep hk, h2⟩
theorem SetC.keep {s : Spans} {cs : List Value} (h : SetC w X s cs) : SetC w' X' s cs := by
 obtain ⟨u, e, h⟩ := h
 exact ⟨u, e, h.keep hk⟩
theorem SetsV.keep {l : List Spans} {u : Value} (h : SetsV w X l u) : SetsV w' X' l u := by
 obtain ⟨A, n, c, e, h1, h2⟩ := h
 exact ⟨A, n, c, e, h1.keep hk (fun _ _ => SetC.keep hk), h2⟩
theorem RuleC.keep {r : RuleD} {cs : List Value} (h : RuleC w X r cs) : RuleC w' X' r cs := by
 obtain ⟨u1, u2, u3, A, n, c, e, h1, h2, h3, h4, h5⟩ := h
 exact ⟨u1, u2, u3, A, n, c, e, h1.keep hk, h2.keep hk, h3.keep hk, h4.keep hk, h5⟩
theorem RulesV.keep {l : List RuleD} {u : Value} (h : RulesV w X l u) : RulesV w' X' l u := by
 obtain ⟨A, n, c, e, h1, h2⟩ := h
 exact ⟨A, n, c, e, h1.keep hk (fun _ _ => RuleC.keep hk), h2⟩
theorem PassC.keep {p : PassD} {cs : List Value} (h : PassC w X p cs) : PassC w' X' p cs := by
 obtain ⟨u, e, h⟩ := h
 exact ⟨u, e, h.keep hk⟩
theorem PassesV.keep {l : List PassD} {u : Value} (h : PassesV w X l u) : PassesV w' X' l u := by
 obtain ⟨A, n, c, e, h1, h2⟩ := h
 exact ⟨A, n, c, e, h1.keep hk (fun _ _ => PassC.keep hk), h2⟩
theorem ScriptC.keep {s : ScriptD} {cs : List Value} (h : ScriptC w X s cs) : ScriptC w' X' s cs := by
 obtain ⟨u, v, e, h1, h2⟩ := h
 exact ⟨u, v, e, h1.keep hk, h2.keep hk⟩
end
theorem own_lt {wx : World} {v : Value} {base sz n : Nat} {e : TypeId} {xs : List Value} (h : wx.ownsRow base e sz v n xs) {b : Nat} (hb : v.ownBlock = some b) : base ≤ b ∧ b < wx.heap.size := World.ownsRow.lt h b hb
theorem own_set_lt {w : World} {lo sz n g i : Nat} {e : TypeId} {v u : Value} {xs : List Value} (h : w.ownsRow lo e sz v n xs) (hg : g < lo) : (w.setCell ⟨g, i, none⟩ u).ownsRow lo e sz v n xs := by
 rcases h.2 with ⟨hv, h0⟩ | ⟨k, cap, cur, hv, h1, h2, h3⟩
 ·exact ⟨h.1, .inl ⟨hv, h0⟩⟩
 ·refine ⟨h.1, .inr ⟨k, cap, cur, hv, h1, ?_, h3⟩⟩
  rw [Below.heap_setCell _ _ _ _ (show k ≠ g by omega)]
  exact h2
structure HeadD where
 low : Int
 high : Int
 rules : List Int
def IntsV (w : World) (X : Nat → Prop) (l : List Int) (u : Value) : Prop := ∃ A n c, u = .slice A n c ∧ RdX w X 1 A n (intCells l) ∧ n ≤ maxLen
def HeadC (w : World) (X : Nat → Prop) (h : HeadD) (cs : List Value) : Prop := ∃ u, cs = [.int .i32 h.low, .int .i32 h.high, u] ∧ IntsV w X h.rules u
def HeadsV (w : World) (X : Nat → Prop) (l : List HeadD) (u : Value) : Prop := ∃ A n c, u = .slice A n c ∧ ListX (HeadC w X) w X 3 A n l ∧ n ≤ maxLen
section
variable {w w' : World} {X X' : Nat → Prop} (hk : Keeps w X w' X')
include hk
theorem IntsV.keep {l : List Int} {u : Value} (h : IntsV w X l u) : IntsV w' X' l u := by
 obtain ⟨A, n, c, e, h1, h2⟩ := h
 exact ⟨A, n, c, e, h1.keep hk, h2⟩
theorem HeadC.keep {h : HeadD} {cs : List Value} (hh : HeadC w X h cs) : HeadC w' X' h cs := by
 obtain ⟨u, e, h1⟩ := hh
 exact ⟨u, e, h1.keep hk⟩
theorem HeadsV.keep {l : List HeadD} {u : Value} (h : HeadsV w X l u) : HeadsV w' X' l u := by
 obtain ⟨A, n, c, e, h1, h2⟩ := h
 exact ⟨A, n, c, e, h1.keep hk (fun _ _ => HeadC.keep hk), h2⟩
end
theorem IntsV.len {w : World} {X : Nat → Prop} {l : List Int} {A : Option Addr} {n c : Nat} (h : IntsV w X l (.slice A n c)) : l.length = n ∧ n ≤ maxLen := by
 obtain ⟨A', n', c', e, h1, h2⟩ := h
 cases e
 have := h1.1
 simp [intCells] at this
 exact ⟨this, h2⟩
def Any0 (_ : Nat) : Prop := True
theorem Keeps.any {w w' : World} {X : Nat → Prop} (hb : Below w.heap.size w w') : Keeps w X w' X := Keeps.below hb (fun _ h _ => h)
theorem RdX.of {w : World} {X : Nat → Prop} {sz n : Nat} {A : Option Addr} {xs : List Value} (h : RdX w X sz A n xs) : Rd w w.heap.size sz A n xs := h.rd (fun _ _ h => h)
theorem sets_at {w : World} {X : Nat → Prop} {A : Option Addr} {n : Nat} {l : List Spans} (h : ListX (SetC w X) w X 1 A n l) {k : Nat} {s : Spans} (hk : l[k]? = some s) :
 ∃ (b off : Nat) (A' : Option Addr) (n' c' : Nat), A = some ⟨b, off, none⟩ ∧ X b ∧ b < w.heap.size ∧ w.cell? ⟨b, off + k, none⟩ = some (.slice A' n' c') ∧ RdS w w.heap.size A' n' s ∧ RdX w X 2 A' n' (spanCells s) ∧ n' ≤ maxLen := by
 obtain ⟨b, off, cs, e, hx, hb, ⟨u, rfl, A', n', c', rfl, h1, h2⟩, _, hc⟩ := h.at hk
 have := hc 0 _ rfl
 rw [Nat.mul_one, Nat.add_zero] at this
 exact ⟨b, off, A', n', c', e, hx, hb, this, h1.of, h1, h2⟩
end Go.Proofs.YthnhbcohfoodlaaGreatDoor

namespace Go.Proofs.YthnhbcohfoodlaaGreatDoor
open Go.RowKit
def SrRel (w : World) (n : Nat) (i : Value) (wr : World) : Prop := ∃ j : Nat, j ≤ n ∧ i = .int .i64 j ∧ Below w.heap.size w wr
set_option maxHeartbeats 1600000 in
theorem sets_right (X : Nat → Prop) (L : List Spans) (A : Option Addr) (n c : Nat) (w : World) (hn : n ≤ 1000) (hS : ∀ s ∈ L, RightSet s) (hL : ListX (SetC w X) w X 1 A n L) :
 Calls Tryz.prog 49 #[.slice A n c] w fun e w' => e = .returned (.int .i64 0) ∧ Below w.heap.size w w' := by
 have HLEN := Lib.hid (show L.length = n from hL.len)
 have HL := Lib.hid hL
 have HS := Lib.hid hS
 clear hL hS
 go_enter Tryz.func49, Tryz.ntmps49
 go_wp2_with fail
 go_loopw [8] (SrRel w n) (fun i _ => n - (intOf i).toNat)
 case atStart => exact ⟨0, Nat.zero_le _, rfl, Below.refl _ _⟩
 case round =>
  obtain ⟨j, hj, rfl, hb⟩ := hrel
  by_cases hlt : j < n
  ·obtain ⟨s, hs⟩ : ∃ z, L[j]? = some z := ⟨_, List.getElem?_eq_getElem (by rw [HLEN.out]; exact hlt)⟩
   obtain ⟨b, off, A', n', c', rfl, _, hbb, hcx0, hrd, _, hnn⟩ := sets_at HL.out hs
   have hcx := (hb.cell (p := ⟨b, off + j, none⟩) hbb).trans hcx0
   simp only [maxLen] at hnn
   have HW := Lib.hid (show Calls Tryz.prog 16 #[.slice A' n' c'] wr fun e w' => e = .returned (.int .i64 0) ∧ Below wr.heap.size wr w' by
    have := sets_wrong A' n' c' s wr (by omega) ((Rd.below hrd hb).more hb.size)
    rwa [wrong_of (HS.out s (List.mem_of_getElem? hs))] at this)
   have HB := Lib.hid hb
   clear hs hrd hb hcx0
   go_wp2_with fail
   refine HW.out.mono ?_
   rintro e w1 ⟨rfl, hb1⟩
   have HB1 := Lib.hid (HB.out.trans (hb1.mono HB.out.size))
   go_wp2_with fail
   exact ⟨⟨j + 1, by omega, by go_num, HB1.out⟩, by simp [intOf]; omega⟩
  ·obtain rfl : j = n := by omega
   go_wp2_with fail
   go_ret
   exact ⟨rfl, hb⟩
theorem sets_fit (A : Option Addr) (n c : Nat) (w : World) :
 Calls Tryz.prog 52 #[.slice A n c] w fun e w' => e = .returned (if 200 < n then .tuple #[.slice none 0 0, .int .i64 5] else .tuple #[.slice A n c, .int .i64 0]) ∧ w' = w := by
 by_cases h : 200 < n
 ·rw [if_pos h]
  go_enter Tryz.func52, Tryz.ntmps52
  go_wp2_with fail
  go_ret2
  exact ⟨rfl, rfl⟩
 ·rw [if_neg h]
  go_enter Tryz.func52, Tryz.ntmps52
  go_wp2_with fail
  go_ret2
  exact ⟨rfl, rfl⟩
def SlicePost (w : World) (s : Spans) (m : Nat) (e : Ending) (w' : World) : Prop := ∃ A' n' c', e = .returned (.slice A' n' c') ∧ RdX w' (fun b => w.heap.size ≤ b) 2 A' n' (spanCells s) ∧ n' ≤ m ∧ n' ≤ c' ∧ Below w.heap.size w w'
def SnRel (w : World) (s : Spans) (n : Nat) (out a i : Value) (wr : World) : Prop :=
 ∃ (j k : Nat) (x : Int) (acc : Spans), j ≤ n ∧ i = .int .i64 j ∧ a = .int .i32 x ∧ 0 ≤ x ∧ x ≤ 1114112 ∧ k ≤ j ∧ wr.ownsRow w.heap.size 74 2 out k (spanCells acc) ∧ acc.length = k ∧ notP s = acc ++ notGo x (s.drop j) ∧ Below w.heap.size w wr
set_option maxHeartbeats 1600000 in
set_option maxRecDepth 100000 in
theorem sets_not (A : Option Addr) (n c : Nat) (s : Spans) (w : World) (hn : n ≤ 200) (hs : RightSet s) (hl : RdS w w.heap.size A n s) :
 Calls Tryz.prog 54 #[.slice A n c] w (SlicePost w (notP s) 201) := by
 obtain ⟨i0, hi, z0, z1, z2⟩ := info_parts infoSpan
 have HLEN := Lib.hid hl.len
 have HL := Lib.hid hl
 have HS := Lib.hid hs
 clear hl hs
 go_enter Tryz.func54, Tryz.ntmps54
 go_wp2_with fail
 go_loopw [3, 4, 9] (SnRel w s n) (fun _ _ i _ => n - (intOf i).toNat)
 case atStart => exact ⟨0, 0, 0, [], Nat.zero_le _, rfl, rfl, by omega, by omega, by omega, World.ownsRow_nil _ _ _ _, rfl, rfl, Below.refl _ _⟩
 case round =>
  obtain ⟨j, k, a, acc, hj, rfl, rfl, ha0, ha1, hk, hown, hk2, hgo, hb⟩ := hrel
  have hz := hb.size
  have hb0 := hb
  obtain ⟨A3, c3, rfl, hc3⟩ := own_form hown
  by_cases hlt : j < n
  ·obtain ⟨⟨x, y⟩, hx⟩ : ∃ z, s[j]? = some z := ⟨_, List.getElem?_eq_getElem (by rw [HLEN.out]; exact hlt)⟩
   obtain ⟨b, off, rfl, hbb, c0, c1⟩ := HL.out.at hx
   have d0 := (hb.cell (p := ⟨b, off + j * 2, none⟩) hbb).trans c0
   have d1 := (hb.cell (p := ⟨b, off + j * 2 + 1, none⟩) hbb).trans c1
   have hxy := HS.out.each (x, y) (List.mem_of_getElem? hx)
   simp only at hxy
   rw [drop_at hx, notGo] at hgo
   simp only at hgo
   have HX := Lib.hid hx
   have HB1 := Lib.hid (hb.alloc hz (.cells #[.int .i32 x, .int .i32 y] 74))
   have HO1 := Lib.hid (World.ownsRow.alloc hown (.cells #[.int .i32 x, .int .i32 y] 74))
   have HOW := Lib.hid hown
   have HY := Lib.hid (Blk.new wr 74 #[.int .i32 x, .int .i32 y])
   clear hx c0 c1 hown hb hb0
   by_cases hgt : a < x
   ·rw [if_pos hgt] at hgo
    have HG := Lib.hid hgo
    have HO2 := Lib.hid (World.ownsRow.alloc HO1.out (.cells #[.int .i32 a, .int .i32 (x - 1)] 74))
    have HB2 := Lib.hid (HB1.out.alloc HB1.out.size (.cells #[.int .i32 a, .int .i32 (x - 1)] 74))
    have HN := Lib.hid (show Rd ((wr.alloc (.cells #[.int .i32 x, .int .i32 y] 74)).alloc (.cells #[.int .i32 a, .int .i32 (x - 1)] 74)) (wr.heap.size + 1 + 1) 2 (some ⟨wr.heap.size + 1, 0, none⟩) 1 [.int .i32 a, .int .i32 (x - 1)] by
     have := Rd.new (wr.alloc (.cells #[.int .i32 x, .int .i32 y] 74)) 74 2 1 [.int .i32 a, .int .i32 (x - 1)] rfl
     simpa using this)
    clear hgo
    go_wp2_with (at_builtin; refine wpList_append_rd _ rfl (.tmp 17) (.tmp 23) 22 rfl w.heap.size 74 i0 _ 2 8 Tryz.underlying22 hi z0 z1 z2 rfl (by decide) _ _ _ rfl HO2.out (wr.heap.size + 1 + 1) (some ⟨wr.heap.size + 1, 0, none⟩) 1 1 [.int .i32 a, .int .i32 (x - 1)] rfl HN.out (span_one _ _) (by simp only [maxLen]; omega) (by omega) HB2.out.size ?_)
    intro v' w9 happ
    have HB9 := Lib.hid (HB2.out.trans (happ.below HB2.out.size HO2.out))
    have HO9 := Lib.hid (show w9.ownsRow w.heap.size 74 2 v' (k + 1) (spanCells (acc ++ [(a, x - 1)])) by rw [spanCells_snoc]; exact happ.own)
    have hblk : Blk w9 wr.heap.size 74 #[.int .i32 x, .int .i32 y] := by
     have h1 : Blk ((wr.alloc (.cells #[.int .i32 x, .int .i32 y] 74)).alloc (.cells #[.int .i32 a, .int .i32 (x - 1)] 74)) wr.heap.size 74 #[.int .i32 x, .int .i32 y] := HY.out.alloc _
     unfold Blk at h1 ⊢
     rw [happ.2.1.block _ (by simp; omega) (fun e => ?_)]
     ·exact h1
     ·have := (own_lt HOW.out e.symm).2; omega
    have e1 := hblk.cell 1
    clear happ hblk
    go_wp2_with fail
    exact ⟨⟨j + 1, k + 1, y + 1, acc ++ [(a, x - 1)], by omega, by go_num, rfl, by omega, by omega, by omega, HO9.out, by simp; omega, by rw [HG.out]; simp, HB9.out⟩, by simp [intOf]; omega⟩
   ·rw [if_neg hgt, List.nil_append] at hgo
    have HG := Lib.hid hgo
    clear hgo
    go_wp2_with fail
    exact ⟨⟨j + 1, k, y + 1, acc, by omega, by go_num, rfl, by omega, by omega, by omega, HO1.out, by omega, HG.out, HB1.out⟩, by simp [intOf]; omega⟩
  ·obtain rfl : j = n := by omega
   rw [List.drop_of_length_le (by rw [HLEN.out]; omega), notGo] at hgo
   by_cases hle : a ≤ 1114111
   ·rw [if_pos hle] at hgo
    have HG := Lib.hid hgo
    have HO2 := Lib.hid (World.ownsRow.alloc hown (.cells #[.int .i32 a, .int .i32 1114111] 74))
    have HB2 := Lib.hid (hb.alloc hb.size (.cells #[.int .i32 a, .int .i32 1114111] 74))
    have HN := Lib.hid (Rd.new wr 74 2 1 [.int .i32 a, .int .i32 1114111] rfl)
    clear hgo hown hb hb0
    go_wp2_with (at_builtin; refine wpList_append_rd _ rfl (.tmp 31) (.tmp 34) 22 rfl w.heap.size 74 i0 _ 2 8 Tryz.underlying22 hi z0 z1 z2 rfl (by decide) _ _ _ rfl HO2.out (wr.heap.size + 1) (some ⟨wr.heap.size, 0, none⟩) 1 1 [.int .i32 a, .int .i32 1114111] rfl HN.out (span_one _ _) (by simp only [maxLen]; omega) (by omega) HB2.out.size ?_)
    intro v' w9 happ
    have HB9 := Lib.hid (HB2.out.trans (happ.below HB2.out.size HO2.out))
    have HO9 := Lib.hid (show w9.ownsRow w.heap.size 74 2 v' (k + 1) (spanCells (notP s)) by rw [HG.out, spanCells_snoc]; exact happ.own)
    clear happ
    obtain ⟨A9, c9, rfl, hc9⟩ := own_form HO9.out
    go_wp2_with fail
    go_ret
    exact ⟨A9, k + 1, c9, rfl, RdX.of_own HO9.out (fun b hb => (own_lt HO9.out hb).1), by omega, hc9, HB9.out⟩
   ·rw [if_neg hle, List.append_nil] at hgo
    have HO9 := Lib.hid (show wr.ownsRow w.heap.size 74 2 (.slice A3 k c3) k (spanCells (notP s)) by rw [hgo]; exact hown)
    clear hgo hown hb0
    go_wp2_with fail
    go_ret
    exact ⟨A3, k, c3, rfl, RdX.of_own HO9.out (fun b hb => (own_lt HO9.out hb).1), by omega, hc3, hb⟩
end Go.Proofs.YthnhbcohfoodlaaGreatDoor

namespace Go.Proofs.YthnhbcohfoodlaaGreatDoor
open Go.RowKit
def PcsS (w : World) (outs : List Spans) (us : List Value) : Prop := ∀ (i : Nat) (l : Spans) (u : Value), outs[i]? = some l → us[i]? = some u → ∃ A n c, u = .slice A n c ∧ Rd w w.heap.size 2 A n (spanCells l)
theorem PcsS.below {w w' : World} {outs : List Spans} {us : List Value} (h : PcsS w outs us) (hb : Below w.heap.size w w') : PcsS w' outs us := by
 intro i l u h1 h2
 obtain ⟨A, n, c, e, hr⟩ := h i l u h1 h2
 exact ⟨A, n, c, e, (Rd.below hr hb).more hb.size⟩
set_option maxRecDepth 100000 in
set_option maxHeartbeats 800000 in
theorem clone_spans (A : Option Addr) (n c : Nat) (l : Spans) (w : World) (hn : n ≤ 100000) (hl : RdS w w.heap.size A n l) :
 Calls Tryz.prog 89 #[.slice A n c] w fun e w' => (∃ v, e = .returned v ∧ w'.ownsRow w.heap.size 74 2 v n (spanCells l)) ∧ Below w.heap.size w w' := by
 obtain ⟨i0, hi, z0, z1, z2⟩ := info_parts infoSpan
 have HEQ := Lib.hid (fun W => Lib.run_eql_slice_nil (P := Tryz.prog) W 22 74 A n c 0 0 Tryz.underlying22)
 have HL := Lib.hid hl
 cases A with
 | none =>
   have h0 : n = 0 := by
    rcases Nat.eq_zero_or_pos n with h | h
    ·exact h
    ·obtain ⟨b, o, e, _⟩ := hl.2 h
     cases e
   subst h0
   have hl0 : l = [] := List.eq_nil_of_length_eq_zero hl.len
   subst hl0
   have heq := fun W => HEQ.out W
   simp only [Option.isNone_none] at heq
   clear hl
   go_enter Tryz.func89, Tryz.ntmps89
   go_wp2_with fail
   go_ret
   exact ⟨⟨_, rfl, World.ownsRow_nil _ _ _ _⟩, Below.refl _ _⟩
 | some a =>
   have heq := fun W => HEQ.out W
   simp only [Option.isNone_some] at heq
   have HOE := Lib.hid (own_empty w 74 2 w.heap.size w.heap.size rfl (Nat.le_refl _))
   have hba := (Below.refl w.heap.size w).alloc (Nat.le_refl _) (.cells #[] 74)
   have HBA := Lib.hid hba
   have HR1 := Lib.hid ((Rd.below hl hba).more hba.size)
   clear hba hl
   go_enter Tryz.func89, Tryz.ntmps89
   go_wp2_with (at_builtin; refine wpList_append_rd _ rfl (.tmp 5) (.tmp 6) 22 rfl w.heap.size 74 i0 _ 2 8 Tryz.underlying22 hi z0 z1 z2 rfl (by decide) _ _ _ rfl HOE.out _ (some a) n c (spanCells l) rfl HR1.out (spanCells_one _) (by simp only [maxLen]; omega) (by omega) (by simp) ?_)
   intro v1 w3 happ
   have HB3 := Lib.hid (HBA.out.trans (happ.below (by simp) HOE.out))
   have HO3 := Lib.hid happ.own
   clear happ heq
   go_wp2_with fail
   go_ret
   exact ⟨⟨_, rfl, by simpa using HO3.out⟩, HB3.out⟩
set_option maxRecDepth 100000 in
set_option maxHeartbeats 800000 in
theorem grow_spans (n : Nat) (w : World) (hn : n ≤ 100000) :
 Calls Tryz.prog 94 #[.slice none 0 0, .int .i64 n] w fun e w' => (∃ v, e = .returned v ∧ w'.ownsRow w.heap.size 74 2 v 0 []) ∧ Below w.heap.size w w' := by
 obtain ⟨i0, hi, z0, z1, z2⟩ := info_parts infoSpan
 by_cases h0 : n = 0
 ·subst h0
  go_enter Tryz.func94, Tryz.ntmps94
  go_wp2_with fail
  go_ret
  exact ⟨⟨_, rfl, World.ownsRow_nil _ _ _ _⟩, Below.refl _ _⟩
 ·have hrun := Lib.run_append_nil_zeros (P := Tryz.prog) w 22 3 22 74 i0 (.agg #[.int .i32 0, .int .i32 0]) .i64 .i64 Tryz.underlying22 Tryz.underlying3 hi z0 n (by omega) (by omega) (by omega) (by rw [z2]; omega)
  generalize hcap : grownCap w n 0 74 = cap at hrun
  have hcge : n ≤ cap := by rw [← hcap]; exact grownCap_ge w _ 0 74
  have hcle : cap ≤ maxLen := by rw [← hcap]; exact grownCap_le_maxLen w _ 0 74 (by simp only [maxLen]; omega)
  generalize hZ : (Builtin.zeroCells (Value.agg #[.int .i32 0, .int .i32 0]).cells n ++ Builtin.zeroCells (Value.agg #[.int .i32 0, .int .i32 0]).cells (cap - n)) = Z at hrun
  have hZs : Z.size = cap * 2 := by rw [← hZ]; simp [size_zeroCells, Value.cells]; omega
  have HR := Lib.hid hrun
  have HO := Lib.hid (show (w.drew.alloc (.cells Z 74)).ownsRow w.heap.size 74 2 (.slice (some ⟨w.heap.size, 0, none⟩) 0 cap) 0 [] from
   ⟨rfl, .inr ⟨w.heap.size, cap, Z, rfl, Nat.le_refl _, heap_alloc_new w.drew _, Nat.zero_le _, hcle, by omega, by simp⟩⟩)
  have HB := Lib.hid (show Below w.heap.size w (w.drew.alloc (.cells Z 74)) from ((Below.refl w.heap.size w).drew).alloc (Nat.le_refl _) _)
  clear hcap hZ hZs hrun
  go_enter Tryz.func94, Tryz.ntmps94
  go_wp2_with (at_builtin; refine Lib.wpList_append_run _ rfl (.tmp 20) (.tmp 21) _ _ rfl (.slice none 0 0) (.int .i64 n) rfl rfl _ _ HR.out ?_)
  go_wp2_with fail
  go_ret
  exact ⟨⟨_, rfl, HO.out⟩, HB.out⟩
theorem flatS_take {outs : List Spans} {k : Nat} {x : Spans} (h : outs[k]? = some x) : (outs.take (k + 1)).flatten = (outs.take k).flatten ++ x := by
 rw [List.take_add_one, h]
 simp
theorem flatS_le (outs : List Spans) (k : Nat) : (outs.take k).flatten.length ≤ outs.flatten.length := by
 have h := congrArg (fun z : List Spans => z.flatten.length) (List.take_append_drop k outs)
 simp only [List.flatten_append, List.length_append] at h
 omega
def CsRel (w : World) (outs : List Spans) (m : Nat) (s3 i : Value) (wr : World) : Prop :=
 ∃ k : Nat, k ≤ m ∧ i = .int .i64 k ∧ s3 = .int .i64 (outs.take k).flatten.length ∧ w = wr
def CsRel2 (w : World) (outs : List Spans) (m : Nat) (s6 i : Value) (wr : World) : Prop :=
 ∃ (k N : Nat), k ≤ m ∧ i = .int .i64 k ∧ (outs.take k).flatten.length = N ∧ wr.ownsRow w.heap.size 74 2 s6 N (spanCells (outs.take k).flatten) ∧ Below w.heap.size w wr
set_option maxRecDepth 100000 in
set_option maxHeartbeats 1600000 in
theorem concat_spans (outs : List Spans) (us : List Value) (A : Option Addr) (m c : Nat) (w : World) (hlen : outs.length = m) (hrd : Rd w w.heap.size 1 A m us) (hpc : PcsS w outs us) (hsum : outs.flatten.length ≤ 100000) (hm : m ≤ 100000) :
 Calls Tryz.prog 51 #[.slice A m c] w fun e w' => (∃ v, e = .returned v ∧ w'.ownsRow w.heap.size 74 2 v outs.flatten.length (spanCells outs.flatten)) ∧ Below w.heap.size w w' := by
 obtain ⟨i0, hi, z0, z1, z2⟩ := info_parts infoSpan
 have HLEN := Lib.hid hlen
 have HRD := Lib.hid hrd
 have HPC := Lib.hid hpc
 have HUL := Lib.hid (show us.length = m by have := hrd.1; omega)
 have HSUM := Lib.hid hsum
 clear hlen hrd hpc hsum
 go_enter Tryz.func51, Tryz.ntmps51
 go_wp2_with fail
 go_loopw [3, 11] (CsRel w outs m) (fun _ i _ => m - (intOf i).toNat)
 case atStart => exact ⟨0, Nat.zero_le _, rfl, rfl, rfl⟩
 case round =>
  obtain ⟨k, hk, rfl, rfl, rfl⟩ := hrel
  obtain ⟨S, hS⟩ : ∃ S, (outs.take k).flatten.length = S := ⟨_, rfl⟩
  have hS1 : S ≤ 100000 := by have := flatS_le outs k; have := HSUM.out; omega
  by_cases hlt : k < m
  ·obtain ⟨x, hx⟩ : ∃ x, outs[k]? = some x := ⟨_, List.getElem?_eq_getElem (by rw [HLEN.out]; exact hlt)⟩
   obtain ⟨u, hu⟩ : ∃ u, us[k]? = some u := ⟨_, List.getElem?_eq_getElem (by rw [HUL.out]; exact hlt)⟩
   obtain ⟨P, n1, c1, rfl, hr⟩ := HPC.out k x u hx hu
   obtain ⟨b, o, rfl, _, hc⟩ := HRD.out.2 (by omega)
   have u0 := hc _ _ hu
   have hl1 := hr.1
   rw [spanCells_length] at hl1
   have HFT := Lib.hid (show (outs.take (k + 1)).flatten.length = S + n1 by rw [flatS_take hx, List.length_append, hS]; omega)
   have hn1 : S + n1 ≤ 100000 := by have := HFT.out; have := flatS_le outs (k + 1); have := HSUM.out; omega
   have hk0 : (0 : Int) ≤ (k : Int) := by omega
   have hd0 : decide ((S : Int) + (n1 : Int) < 0) = false := decide_eq_false (by omega)
   rw [hS]
   clear hx hu hr hc hl1 hS
   go_wp2_with fail
   exact ⟨⟨k + 1, by omega, by go_num, by rw [HFT.out]; go_num, rfl⟩, by simp [intOf]; omega⟩
  ·obtain rfl : k = m := by omega
   rw [List.take_of_length_le (by rw [HLEN.out]; exact Nat.le_refl _)] at hS ⊢
   have HS := Lib.hid hS
   rw [hS]
   clear hS
   go_wp2_with fail
   refine (grow_spans S _ hS1).mono ?_
   rintro e w1 ⟨⟨v, rfl, ho⟩, hb1⟩
   have HO := Lib.hid ho
   have HB := Lib.hid hb1
   obtain ⟨A1, c1, rfl, _⟩ := own_form ho
   clear ho hb1
   go_wp2_with fail
   go_loopw [6, 27] (CsRel2 w outs k) (fun _ i _ => k - (intOf i).toNat)
   case atStart => exact ⟨0, 0, Nat.zero_le _, rfl, rfl, HO.out, HB.out⟩
   case round =>
    obtain ⟨j, N, hj, rfl, hN, ho, hb⟩ := hrel
    have HO := Lib.hid ho
    have HB := Lib.hid hb
    have HN := Lib.hid hN
    have hz := hb.size
    have hN1 : N ≤ 100000 := by have := flatS_le outs j; have := HSUM.out; omega
    obtain ⟨A2, c2, rfl, _⟩ := own_form ho
    clear ho hN
    by_cases hlt : j < k
    ·obtain ⟨x, hx⟩ : ∃ x, outs[j]? = some x := ⟨_, List.getElem?_eq_getElem (by rw [HLEN.out]; exact hlt)⟩
     obtain ⟨u, hu⟩ : ∃ u, us[j]? = some u := ⟨_, List.getElem?_eq_getElem (by rw [HUL.out]; exact hlt)⟩
     obtain ⟨P, n1, c1', rfl, hr⟩ := (HPC.out.below hb) j x u hx hu
     obtain ⟨b, o, rfl, hbb, hc⟩ := (Rd.below HRD.out hb).2 (by omega)
     have u0 := hc _ _ hu
     have hl1 := hr.1
     rw [spanCells_length] at hl1
     have HFT := Lib.hid (flatS_take hx)
     have HFL := Lib.hid (show (outs.take (j + 1)).flatten.length = N + n1 by rw [flatS_take hx, List.length_append, HN.out]; omega)
     have hn1 : N + n1 ≤ 100000 := by have := HFL.out; have := flatS_le outs (j + 1); have := HSUM.out; omega
     have HR := Lib.hid hr
     clear hx hu hr hc hl1 hb
     go_wp2_with (at_builtin; refine wpList_append_rd _ rfl (.tmp 31) (.tmp 32) 22 rfl w.heap.size 74 i0 _ 2 8 Tryz.underlying22 hi z0 z1 z2 rfl (by decide) _ N _ rfl HO.out _ P n1 c1' (spanCells x) rfl HR.out (spanCells_one _) (by simp only [maxLen]; omega) (by omega) hz ?_)
     intro v' w9 happ
     have HB9 := Lib.hid (HB.out.trans (happ.below hz HO.out))
     have HO9 := Lib.hid (show w9.ownsRow w.heap.size 74 2 v' (N + n1) (spanCells (outs.take (j + 1)).flatten) by rw [HFT.out, spanCells_app2]; exact happ.own)
     clear happ
     go_wp2_with fail
     exact ⟨⟨j + 1, N + n1, by omega, by go_num, HFL.out, HO9.out, HB9.out⟩, by simp [intOf]; omega⟩
    ·obtain rfl : j = k := by omega
     have HF := Lib.hid (show wr.ownsRow w.heap.size 74 2 (.slice A2 N c2) outs.flatten.length (spanCells outs.flatten) by
      have h1 := HO.out
      have h2 := HN.out
      rw [List.take_of_length_le (by rw [HLEN.out]; exact Nat.le_refl _)] at h1 h2
      rw [h2]
      exact h1)
     clear hb
     go_wp2_with fail
     go_ret
     exact ⟨⟨_, rfl, HF.out⟩, HB.out⟩
end Go.Proofs.YthnhbcohfoodlaaGreatDoor
