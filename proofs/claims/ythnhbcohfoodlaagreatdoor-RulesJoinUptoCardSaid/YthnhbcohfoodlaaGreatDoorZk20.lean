/- Parts + BareD -/
import Derived.Test.YthnhbcohfoodlaaGreatDoorZk16
import Derived.Test.YthnhbcohfoodlaaGreatDoorZk13
import Derived.Test.YthnhbcohfoodlaaGreatDoorZk4
namespace Go.Proofs.YthnhbcohfoodlaaGreatDoor
open Go.RowKit Go.ChangeShapes Go.WideShapes Go.ChangeAt
def RdL {α : Type} (R : α → List Value → Prop) (w : World) (B sz : Nat) (A : Option Addr) (n : Nat) (l : List α) : Prop :=
  ∃ css : List (List Value), l.length = n ∧ css.length = n ∧ (∀ (i : Nat) (a : α) (cs : List Value), l[i]? = some a → css[i]? = some cs → R a cs) ∧ (∀ cs ∈ css, cs.length = sz) ∧ Rd w B sz A n css.flatten
theorem RdL.len {α : Type} {R : α → List Value → Prop} {w : World} {B sz n : Nat} {A : Option Addr} {l : List α} (h : RdL R w B sz A n l) : l.length = n := by
  obtain ⟨_, h1, _⟩ := h
  exact h1
theorem RdL.at {α : Type} {R : α → List Value → Prop} {w : World} {B sz n : Nat} {A : Option Addr} {l : List α} (h : RdL R w B sz A n l) {k : Nat} {a : α} (hk : l[k]? = some a) :
    ∃ (b off : Nat) (cs : List Value), A = some ⟨b, off, none⟩ ∧ b < B ∧ R a cs ∧ ∀ j u, cs[j]? = some u → w.cell? ⟨b, off + k * sz + j, none⟩ = some u := by
  obtain ⟨css, h1, h2, h3, h4, h5, h6⟩ := h
  have hlt : k < l.length := (List.getElem?_eq_some_iff.1 hk).1
  obtain ⟨b, off, e, hb, hc⟩ := h6 (by omega)
  obtain ⟨cs, hcs⟩ : ∃ cs, css[k]? = some cs := ⟨_, List.getElem?_eq_getElem (by omega)⟩
  refine ⟨b, off, cs, e, hb, h3 k a cs hk hcs, fun j u hu => ?_⟩
  rw [Nat.add_assoc]
  exact hc _ _ (flatten_get h4 k cs hcs j u hu)
theorem RdL.weak {α : Type} {R R' : α → List Value → Prop} {w w' : World} {B B' sz n : Nat} {A : Option Addr} {l : List α} (h : RdL R w B sz A n l) (hR : ∀ a cs, R a cs → R' a cs) (hw : ∀ xs, Rd w B sz A n xs → Rd w' B' sz A n xs) : RdL R' w' B' sz A n l := by
  obtain ⟨css, h1, h2, h3, h4, h5⟩ := h
  exact ⟨css, h1, h2, fun i a cs ha hc => hR a cs (h3 i a cs ha hc), h4, hw _ h5⟩
structure ItemD where
  kind : Int
  rune : Int
  set : Spans
  name : ByteArray
structure SideD where
  start : Bool
  fin : Bool
  before : List ItemD
  source : List ItemD
  after : List ItemD
  cursor : Int
structure PartD where
  kind : Int
  name : ByteArray
  set : Spans
  dir : Int
  left : SideD
  right : SideD
def i64R (n : Int) : Prop := -9223372036854775808 ≤ n ∧ n ≤ 9223372036854775807
def ItemC (w : World) (B : Nat) (a : ItemD) (cs : List Value) : Prop :=
  ∃ A n c, cs = [.int .i64 a.kind, .int .i32 a.rune, .slice A n c, .string a.name] ∧ RdS w B A n a.set ∧ n ≤ maxLen ∧ i64R a.kind ∧ a.name.size ≤ maxLen
def RdIt (w : World) (B : Nat) (A : Option Addr) (n : Nat) (l : List ItemD) : Prop := RdL (ItemC w B) w B 4 A n l
def SideC (w : World) (B : Nat) (s : SideD) (cs : List Value) : Prop :=
  ∃ A1 n1 c1 A2 n2 c2 A3 n3 c3, cs = [.bool s.start, .bool s.fin, .slice A1 n1 c1, .slice A2 n2 c2, .slice A3 n3 c3, .int .i64 s.cursor] ∧
    RdIt w B A1 n1 s.before ∧ RdIt w B A2 n2 s.source ∧ RdIt w B A3 n3 s.after ∧ n1 ≤ maxLen ∧ n2 ≤ maxLen ∧ n3 ≤ maxLen ∧ i64R s.cursor
def PartC (w : World) (B : Nat) (p : PartD) (cs : List Value) : Prop :=
  ∃ A n c ls rs, cs = [.int .i64 p.kind, .string p.name, .slice A n c, .int .i64 p.dir] ++ ls ++ rs ∧ RdS w B A n p.set ∧ n ≤ maxLen ∧ SideC w B p.left ls ∧ SideC w B p.right rs ∧ i64R p.kind ∧ i64R p.dir ∧ p.name.size ≤ maxLen
def RdP (w : World) (B : Nat) (A : Option Addr) (n : Nat) (l : List PartD) : Prop := RdL (PartC w B) w B 16 A n l
section
variable {w w' : World} {B B' : Nat}
theorem ItemC.weak {a : ItemD} {cs : List Value} (hw : ∀ A sz n xs, Rd w B sz A n xs → Rd w' B' sz A n xs) (h : ItemC w B a cs) : ItemC w' B' a cs := by
  obtain ⟨A, n, c, e, h1, h2⟩ := h
  exact ⟨A, n, c, e, hw _ _ _ _ h1, h2⟩
theorem RdIt.weak {A : Option Addr} {n : Nat} {l : List ItemD} (hw : ∀ A sz n xs, Rd w B sz A n xs → Rd w' B' sz A n xs) (h : RdIt w B A n l) : RdIt w' B' A n l :=
  RdL.weak h (fun _ _ => ItemC.weak hw) (hw _ _ _)
theorem SideC.weak {s : SideD} {cs : List Value} (hw : ∀ A sz n xs, Rd w B sz A n xs → Rd w' B' sz A n xs) (h : SideC w B s cs) : SideC w' B' s cs := by
  obtain ⟨A1, n1, c1, A2, n2, c2, A3, n3, c3, e, h1, h2, h3, h4⟩ := h
  exact ⟨A1, n1, c1, A2, n2, c2, A3, n3, c3, e, RdIt.weak hw h1, RdIt.weak hw h2, RdIt.weak hw h3, h4⟩
theorem PartC.weak {p : PartD} {cs : List Value} (hw : ∀ A sz n xs, Rd w B sz A n xs → Rd w' B' sz A n xs) (h : PartC w B p cs) : PartC w' B' p cs := by
  obtain ⟨A, n, c, ls, rs, e, h1, h2, h3, h4, h5⟩ := h
  exact ⟨A, n, c, ls, rs, e, hw _ _ _ _ h1, h2, SideC.weak hw h3, SideC.weak hw h4, h5⟩
theorem RdP.weak {A : Option Addr} {n : Nat} {l : List PartD} (hw : ∀ A sz n xs, Rd w B sz A n xs → Rd w' B' sz A n xs) (h : RdP w B A n l) : RdP w' B' A n l :=
  RdL.weak h (fun _ _ => PartC.weak hw) (hw _ _ _)
theorem weak_of (hb : Below B w w') (hB : B ≤ B') : ∀ A sz n xs, Rd w B sz A n xs → Rd w' B' sz A n xs := fun _ _ _ _ h => Rd.more (Rd.below h hb) hB
end
end Go.Proofs.YthnhbcohfoodlaaGreatDoor

namespace Go.Proofs.YthnhbcohfoodlaaGreatDoor
open Go.RowKit
def bareI (a : ItemD) : ItemD := ⟨a.kind, if a.kind = 1 then a.rune else 0, if a.kind = 2 then a.set else [], if a.kind = 3 then a.name else ⟨#[]⟩⟩
def bareS (s : SideD) : SideD := ⟨s.start, s.fin, s.before.map bareI, s.source.map bareI, s.after.map bareI, s.cursor⟩
def zeroS : SideD := ⟨false, false, [], [], [], 0⟩
def bareD (p : PartD) : PartD := ⟨p.kind, if p.kind = 1 ∨ p.kind = 4 then p.name else ⟨#[]⟩, if p.kind = 1 ∨ p.kind = 3 then p.set else [], if p.kind = 2 then p.dir else 0, if p.kind = 2 then bareS p.left else zeroS, if p.kind = 2 then bareS p.right else zeroS⟩
end Go.Proofs.YthnhbcohfoodlaaGreatDoor
