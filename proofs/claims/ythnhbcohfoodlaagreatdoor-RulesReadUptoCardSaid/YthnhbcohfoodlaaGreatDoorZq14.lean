/- bM -/
import Derived.Test.YthnhbcohfoodlaaGreatDoorZq13
import Derived.Test.YthnhbcohfoodlaaGreatDoorZq10
import Derived.Deep.Strs
namespace Go.Proofs.YthnhbcohfoodlaaGreatDoor
open Go.RowKit
def j7 (w : World) (X : Nat → Prop) (a : aE) (cs : List Value) : Prop :=
  ∃ A n c, cs = [.int .i64 a.kind, .int .i32 a.rune, .slice A n c, .string a.name] ∧ di w X 2 A n (ak a.set) ∧ n ≤ maxLen ∧ dU a.kind ∧ a.name.size ≤ maxLen
def de (w : World) (X : Nat → Prop) (A : Option Addr) (n : Nat) (l : List aE) : Prop := eE (j7 w X) w X 4 A n l
def je (w : World) (X : Nat → Prop) (s : bp) (cs : List Value) : Prop :=
  ∃ A1 n1 c1 A2 n2 c2 A3 n3 c3, cs = [.bool s.start, .bool s.fin, .slice A1 n1 c1, .slice A2 n2 c2, .slice A3 n3 c3, .int .i64 s.af] ∧
    de w X A1 n1 s.before ∧ de w X A2 n2 s.source ∧ de w X A3 n3 s.after ∧ n1 ≤ maxLen ∧ n2 ≤ maxLen ∧ n3 ≤ maxLen ∧ dU s.af
def bM (w : World) (X : Nat → Prop) (p : aZ) (cs : List Value) : Prop :=
  ∃ A n c ls rs, cs = [.int .i64 p.kind, .string p.name, .slice A n c, .int .i64 p.dir] ++ ls ++ rs ∧ di w X 2 A n (ak p.set) ∧ n ≤ maxLen ∧ je w X p.left ls ∧ je w X p.right rs ∧ dU p.kind ∧ dU p.dir ∧ p.name.size ≤ maxLen
def ej (w : World) (X : Nat → Prop) (A : Option Addr) (n : Nat) (l : List aZ) : Prop := eE (bM w X) w X 16 A n l
section
variable {w w' : World} {X X' : Nat → Prop} (hk : aC w X w' X')
include hk
theorem j7.keep {a : aE} {cs : List Value} (h : j7 w X a cs) : j7 w' X' a cs := by
 obtain ⟨A, n, c, e, h1, h2⟩ := h;exact ⟨A, n, c, e, h1.keep hk, h2⟩
theorem de.keep {A : Option Addr} {n : Nat} {l : List aE} (h : de w X A n l) : de w' X' A n l := eE.keep hk (fun _ _ => j7.keep hk) h
theorem je.keep {s : bp} {cs : List Value} (h : je w X s cs) : je w' X' s cs := by
 obtain ⟨A1, n1, c1, A2, n2, c2, A3, n3, c3, e, h1, h2, h3, h4⟩ := h;exact ⟨A1, n1, c1, A2, n2, c2, A3, n3, c3, e, h1.keep hk, h2.keep hk, h3.keep hk, h4⟩
theorem bM.keep {p : aZ} {cs : List Value} (h : bM w X p cs) : bM w' X' p cs := by
 obtain ⟨A, n, c, ls, rs, e, h1, h2, h3, h4, h5⟩ := h;exact ⟨A, n, c, ls, rs, e, h1.keep hk, h2, h3.keep hk, h4.keep hk, h5⟩
theorem ej.keep {A : Option Addr} {n : Nat} {l : List aZ} (h : ej w X A n l) : ej w' X' A n l := eE.keep hk (fun _ _ => bM.keep hk) h
end
section
variable {α : Type} {w : World} {B sz n : Nat} {A : Option Addr}
theorem eE.kO {R R' : α → List Value → Prop} {l : List α} (hB : B ≤ w.heap.size) (hR : ∀ a cs, R a cs → R' a cs) (h : gU R w B sz A n l) : eE R' w (· < B) sz A n l := by
 obtain ⟨css, h1, h2, h3, h4, h5⟩ := h;exact ⟨css, h1, h2, fun i a cs ha hc => hR a cs (h3 i a cs ha hc), h4, di.kO h5 hB (fun _ h => h)⟩
theorem j7.BQ (hB : B ≤ w.heap.size) {a : aE} {cs : List Value} (h : sS w B a cs) : j7 w (· < B) a cs := by
 obtain ⟨A, n, c, e, h1, h2⟩ := h;exact ⟨A, n, c, e, di.kO h1 hB (fun _ h => h), h2⟩
theorem de.kO (hB : B ≤ w.heap.size) {l : List aE} (h : bK w B A n l) : de w (· < B) A n l := eE.kO hB (fun _ _ => j7.BQ hB) h
theorem je.BQ (hB : B ≤ w.heap.size) {s : bp} {cs : List Value} (h : ou w B s cs) : je w (· < B) s cs := by
 obtain ⟨A1, n1, c1, A2, n2, c2, A3, n3, c3, e, h1, h2, h3, h4⟩ := h;exact ⟨A1, n1, c1, A2, n2, c2, A3, n3, c3, e, .kO hB h1, .kO hB h2, .kO hB h3, h4⟩
theorem bM.BQ (hB : B ≤ w.heap.size) {p : aZ} {cs : List Value} (h : rF w B p cs) : bM w (· < B) p cs := by
 obtain ⟨A, n, c, ls, rs, e, h1, h2, h3, h4, h5⟩ := h;exact ⟨A, n, c, ls, rs, e, di.kO h1 hB (fun _ h => h), h2, .BQ hB h3, .BQ hB h4, h5⟩
theorem ej.kO (hB : B ≤ w.heap.size) {l : List aZ} (h : Lg w B A n l) : ej w (· < B) A n l := eE.kO hB (fun _ _ => bM.BQ hB) h
variable {X : Nat → Prop}
theorem eE.rd {R R' : α → List Value → Prop} {l : List α} (hR : ∀ a cs, R a cs → R' a cs) (h : eE R w X sz A n l) : gU R' w w.heap.size sz A n l := by
 obtain ⟨css, h1, h2, h3, h4, h5⟩ := h;exact ⟨css, h1, h2, fun i a cs ha hc => hR a cs (h3 i a cs ha hc), h4, h5.rd (fun _ _ h => h)⟩
theorem j7.rd {a : aE} {cs : List Value} (h : j7 w X a cs) : sS w w.heap.size a cs := by
 obtain ⟨A, n, c, e, h1, h2⟩ := h;exact ⟨A, n, c, e, h1.rd (fun _ _ h => h), h2⟩
theorem de.rd {l : List aE} (h : de w X A n l) : bK w w.heap.size A n l := eE.rd (fun _ _ => j7.rd) h
theorem je.rd {s : bp} {cs : List Value} (h : je w X s cs) : ou w w.heap.size s cs := by
 obtain ⟨A1, n1, c1, A2, n2, c2, A3, n3, c3, e, h1, h2, h3, h4⟩ := h;exact ⟨A1, n1, c1, A2, n2, c2, A3, n3, c3, e, h1.rd, h2.rd, h3.rd, h4⟩
theorem bM.rd {p : aZ} {cs : List Value} (h : bM w X p cs) : rF w w.heap.size p cs := by
 obtain ⟨A, n, c, ls, rs, e, h1, h2, h3, h4, h5⟩ := h;exact ⟨A, n, c, ls, rs, e, h1.rd (fun _ _ h => h), h2, h3.rd, h4.rd, h5⟩
theorem ej.rd {l : List aZ} (h : ej w X A n l) : Lg w w.heap.size A n l := eE.rd (fun _ _ => bM.rd) h
theorem j7.one {a : aE} {cs : List Value} (h : j7 w X a cs) : cs.length = 4 ∧ ∀ u ∈ cs, u.oneCell' = true := by
 obtain ⟨A, n, c, rfl, _⟩ := h;refine ⟨rfl, fun u hu => ?_⟩;simp at hu;rcases hu with rfl | rfl | rfl | rfl <;> rfl
theorem bM.one {p : aZ} {cs : List Value} (h : bM w X p cs) : cs.length = 16 ∧ ∀ u ∈ cs, u.oneCell' = true := by
 obtain ⟨A, n, c, ls, rs, rfl, _, _, ⟨A1, n1, c1, A2, n2, c2, A3, n3, c3, rfl, _⟩, ⟨B1, m1, d1, B2, m2, d2, B3, m3, d3, rfl, _⟩, _⟩ := h;refine ⟨rfl, fun u hu => ?_⟩;simp at hu;rcases hu with rfl | rfl | rfl | rfl | rfl | rfl | rfl | rfl | rfl | rfl | rfl | rfl | rfl | rfl | rfl | rfl <;> rfl
theorem bM.form {q : aZ} {cs : List Value} (h : bM w X q cs) : ∃ A' n' c' L1 a1 x1 L2 a2 x2 L3 a3 x3 R1 b1 y1 R2 b2 y2 R3 b3 y3, cs = [.int .i64 q.kind, .string q.name, .slice A' n' c', .int .i64 q.dir, .bool q.left.start, .bool q.left.fin, .slice L1 a1 x1, .slice L2 a2 x2, .slice L3 a3 x3, .int .i64 q.left.af, .bool q.right.start, .bool q.right.fin, .slice R1 b1 y1, .slice R2 b2 y2, .slice R3 b3 y3, .int .i64 q.right.af] := by
 obtain ⟨A, n, c, ls, rs, rfl, _, _, ⟨A1, n1, c1, A2, n2, c2, A3, n3, c3, rfl, _⟩, ⟨B1, m1, d1, B2, m2, d2, B3, m3, d3, rfl, _⟩, _⟩ := h;exact ⟨A, n, c, A1, n1, c1, A2, n2, c2, A3, n3, c3, B1, m1, d1, B2, m2, d2, B3, m3, d3, rfl⟩
theorem di.nil (sz : Nat) : di w X sz none 0 [] := ⟨by simp, fun h => absurd h (Nat.lt_irrefl 0)⟩
theorem de.nil : de w X none 0 [] := ⟨[], rfl, rfl, by simp, by simp, di.nil 4⟩
theorem dO : je w X AG [.bool false, .bool false, .slice none 0 0, .slice none 0 0, .slice none 0 0, .int .i64 0] :=
  ⟨none, 0, 0, none, 0, 0, none, 0, 0, rfl, de.nil, de.nil, de.nil, Nat.zero_le _, Nat.zero_le _, Nat.zero_le _, by unfold dU AG; dsimp only; omega⟩
end
theorem uD : (Tryz.prog.info? 98).map (fun i => (i.zero, i.size, i.bytes)) = some (some (.agg #[.int .i64 0, .string ⟨#[]⟩, .slice none 0 0, .int .i64 0, .bool false, .bool false, .slice none 0 0, .slice none 0 0, .slice none 0 0, .int .i64 0, .bool false, .bool false, .slice none 0 0, .slice none 0 0, .slice none 0 0, .int .i64 0]), 16, 232) := by kernel_rfl
end Go.Proofs.YthnhbcohfoodlaaGreatDoor
