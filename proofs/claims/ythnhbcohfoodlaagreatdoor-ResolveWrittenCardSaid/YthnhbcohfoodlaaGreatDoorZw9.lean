/- OpenSpans + Parts + OpenParts + RuleFoot + ResolveP + Item -/
import Derived.Test.YthnhbcohfoodlaaGreatDoorZw3
import Derived.Test.YthnhbcohfoodlaaGreatDoorZw6
import Derived.Test.YthnhbcohfoodlaaGreatDoorZw2
import Derived.Deep.Strs
import Derived.Test.YthnhbcohfoodlaaGreatDoorZw5
import Derived.Lib.Strings
set_option maxHeartbeats 800000
set_option maxRecDepth 100000
namespace Go.Proofs.YthnhbcohfoodlaaGreatDoor
open Go.RowKit Go.ChangeShapes Go.WideShapes Go.ChangeAt
section
variable {H : Type} {enc : TypeId × Value → H} {w : World}
theorem EO {m : Nat} {cs : List Value} {y : DataW H × List MemPlace} (h : DataW.trod enc Tryz.prog w 0 (fun _ => true) true m 74 cs = some y) : ∃ z : Int × Int, cs = [.int .i32 z.1, .int .i32 z.2] := by
 have c1 : Tryz.prog.cellsOf 21 = 1 := (by kernel_rfl);have c2 : Tryz.prog.cellsOf 74 = 2 := (by kernel_rfl);obtain ⟨y0, y1, n, _, hl, h0, h1⟩ := trod_struct2 Tryz.underlying74 h;dsimp only at h0 h1;rw [c1] at h0 h1;rw [c2] at hl;obtain ⟨a, e0, _, _⟩ := DataW.trod_int Tryz.underlying21 h0;obtain ⟨b, e1, _, _⟩ := DataW.trod_int Tryz.underlying21 h1;match cs, hl with
 | [u, v], _ =>
  simp at e0 e1;exact ⟨(a, b), by rw [e0, e1]⟩
theorem ud {fuel n c : Nat} {A : Option Addr} {x : DataW H × List MemPlace} (h : DataW.trod enc Tryz.prog w 0 (fun _ => true) true fuel 22 [.slice A n c] = some x) :
    n ≤ c ∧ c ≤ maxLen ∧ (∃ l, kW w w.heap.size A n l) ∧ ((x.1 = .nil ∧ c = 0) ∨ ∃ elems spare, x.1 = .slice elems spare ∧ elems.length + spare.length = c) := by
 obtain ⟨h1, h2, l, css, hl, hc, hR, _, hrd, hx⟩ := qT Tryz.underlying22 (sz := 2) (by kernel_rfl) (by decide) h (fun (z : Int × Int) cs => cs = [.int .i32 z.1, .int .i32 z.2]) (fun m cs y hy => EO hy);rw [BC (fun z : Int × Int => [.int .i32 z.1, .int .i32 z.2]) l css (by omega) hR] at hrd;exact ⟨h1, h2, ⟨l, hrd⟩, hx⟩
end
end Go.Proofs.YthnhbcohfoodlaaGreatDoor
namespace Go.Proofs.YthnhbcohfoodlaaGreatDoor
open Go.RowKit Go.ChangeShapes Go.WideShapes Go.ChangeAt
def iE {α : Type} (R : α → List Value → Prop) (w : World) (B sz : Nat) (A : Option Addr) (n : Nat) (l : List α) : Prop :=
  ∃ css : List (List Value), l.length = n ∧ css.length = n ∧ (∀ (i : Nat) (a : α) (cs : List Value), l[i]? = some a → css[i]? = some cs → R a cs) ∧ (∀ cs ∈ css, cs.length = sz) ∧ Rd w B sz A n css.flatten
theorem iE.len {α : Type} {R : α → List Value → Prop} {w : World} {B sz n : Nat} {A : Option Addr} {l : List α} (h : iE R w B sz A n l) : l.length = n := by
 obtain ⟨_, h1, _⟩ := h;exact h1
theorem iE.at {α : Type} {R : α → List Value → Prop} {w : World} {B sz n : Nat} {A : Option Addr} {l : List α} (h : iE R w B sz A n l) {k : Nat} {a : α} (hk : l[k]? = some a) :
    ∃ (b off : Nat) (cs : List Value), A = some ⟨b, off, none⟩ ∧ b < B ∧ R a cs ∧ ∀ j u, cs[j]? = some u → w.cell? ⟨b, off + k * sz + j, none⟩ = some u := by
 obtain ⟨css, h1, h2, h3, h4, h5, h6⟩ := h;have hlt : k < l.length := (List.getElem?_eq_some_iff.1 hk).1;obtain ⟨b, off, e, hb, hc⟩ := h6 (by omega);obtain ⟨cs, hcs⟩ : ∃ cs, css[k]? = some cs := ⟨_, List.getElem?_eq_getElem (by omega)⟩;refine ⟨b, off, cs, e, hb, h3 k a cs hk hcs, fun j u hu => ?_⟩;rw [Nat.add_assoc];exact hc _ _ (fm h4 k cs hcs j u hu)
theorem iE.weak {α : Type} {R R' : α → List Value → Prop} {w w' : World} {B B' sz n : Nat} {A : Option Addr} {l : List α} (h : iE R w B sz A n l) (hR : ∀ a cs, R a cs → R' a cs) (hw : ∀ xs, Rd w B sz A n xs → Rd w' B' sz A n xs) : iE R' w' B' sz A n l := by
 obtain ⟨css, h1, h2, h3, h4, h5⟩ := h;exact ⟨css, h1, h2, fun i a cs ha hc => hR a cs (h3 i a cs ha hc), h4, hw _ h5⟩
structure ak where
  kind : Int
  rune : Int
  set : af
  name : ByteArray
structure bk where
  start : Bool
  fin : Bool
  before : List ak
  source : List ak
  after : List ak
  aa : Int
structure ay where
  kind : Int
  name : ByteArray
  set : af
  dir : Int
  left : bk
  right : bk
def fN (n : Int) : Prop := -9223372036854775808 ≤ n ∧ n ≤ 9223372036854775807
def qo (w : World) (B : Nat) (a : ak) (cs : List Value) : Prop :=
  ∃ A n c, cs = [.int .i64 a.kind, .int .i32 a.rune, .slice A n c, .string a.name] ∧ kW w B A n a.set ∧ n ≤ maxLen ∧ fN a.kind ∧ a.name.size ≤ maxLen
def bF (w : World) (B : Nat) (A : Option Addr) (n : Nat) (l : List ak) : Prop := iE (qo w B) w B 4 A n l
def mW (w : World) (B : Nat) (s : bk) (cs : List Value) : Prop :=
  ∃ A1 n1 c1 A2 n2 c2 A3 n3 c3, cs = [.bool s.start, .bool s.fin, .slice A1 n1 c1, .slice A2 n2 c2, .slice A3 n3 c3, .int .i64 s.aa] ∧
    bF w B A1 n1 s.before ∧ bF w B A2 n2 s.source ∧ bF w B A3 n3 s.after ∧ n1 ≤ maxLen ∧ n2 ≤ maxLen ∧ n3 ≤ maxLen ∧ fN s.aa
def pM (w : World) (B : Nat) (p : ay) (cs : List Value) : Prop :=
  ∃ A n c ls rs, cs = [.int .i64 p.kind, .string p.name, .slice A n c, .int .i64 p.dir] ++ ls ++ rs ∧ kW w B A n p.set ∧ n ≤ maxLen ∧ mW w B p.left ls ∧ mW w B p.right rs ∧ fN p.kind ∧ fN p.dir ∧ p.name.size ≤ maxLen
def rX (w : World) (B : Nat) (A : Option Addr) (n : Nat) (l : List ay) : Prop := iE (pM w B) w B 16 A n l
section
variable {w w' : World} {B B' : Nat}
theorem qo.weak {a : ak} {cs : List Value} (hw : ∀ A sz n xs, Rd w B sz A n xs → Rd w' B' sz A n xs) (h : qo w B a cs) : qo w' B' a cs := by
 obtain ⟨A, n, c, e, h1, h2⟩ := h;exact ⟨A, n, c, e, hw _ _ _ _ h1, h2⟩
theorem bF.weak {A : Option Addr} {n : Nat} {l : List ak} (hw : ∀ A sz n xs, Rd w B sz A n xs → Rd w' B' sz A n xs) (h : bF w B A n l) : bF w' B' A n l :=
  iE.weak h (fun _ _ => qo.weak hw) (hw _ _ _)
theorem mW.weak {s : bk} {cs : List Value} (hw : ∀ A sz n xs, Rd w B sz A n xs → Rd w' B' sz A n xs) (h : mW w B s cs) : mW w' B' s cs := by
 obtain ⟨A1, n1, c1, A2, n2, c2, A3, n3, c3, e, h1, h2, h3, h4⟩ := h;exact ⟨A1, n1, c1, A2, n2, c2, A3, n3, c3, e, bF.weak hw h1, bF.weak hw h2, bF.weak hw h3, h4⟩
theorem pM.weak {p : ay} {cs : List Value} (hw : ∀ A sz n xs, Rd w B sz A n xs → Rd w' B' sz A n xs) (h : pM w B p cs) : pM w' B' p cs := by
 obtain ⟨A, n, c, ls, rs, e, h1, h2, h3, h4, h5⟩ := h;exact ⟨A, n, c, ls, rs, e, hw _ _ _ _ h1, h2, mW.weak hw h3, mW.weak hw h4, h5⟩
theorem rX.weak {A : Option Addr} {n : Nat} {l : List ay} (hw : ∀ A sz n xs, Rd w B sz A n xs → Rd w' B' sz A n xs) (h : rX w B A n l) : rX w' B' A n l :=
  iE.weak h (fun _ _ => pM.weak hw) (hw _ _ _)
theorem dG (hb : Below B w w') (hB : B ≤ B') : ∀ A sz n xs, Rd w B sz A n xs → Rd w' B' sz A n xs := fun _ _ _ _ h => Rd.more (Rd.below h hb) hB
end
end Go.Proofs.YthnhbcohfoodlaaGreatDoor
namespace Go.Proofs.YthnhbcohfoodlaaGreatDoor
open Go.RowKit Go.ChangeShapes Go.WideShapes Go.ChangeAt
section
variable {H : Type} {enc : TypeId × Value → H} {w : World}
theorem wf_i64 {n : Int} (h : (Lit.int .i64 n).wf = true) : fN n := by
 simp [Lit.wf, IntKind.min, IntKind.max, IntKind.bits, IntKind.signed] at h;exact h
theorem fZ {e t : TypeId} {m : Nat} {v : Value} {y : DataW H × List MemPlace} (ht : Tryz.prog.underlying t = some (.slice e)) (h : DataW.trod enc Tryz.prog w 0 (fun _ => true) true m t [v] = some y) : ∃ A n c, v = .slice A n c := by
 rcases Deep.open_slice ht h with ⟨hcs, _⟩ | ⟨a, len, cap, m, f, D, Pl, hcs, _⟩
 ·simp only [List.cons.injEq, and_true] at hcs;exact ⟨none, 0, 0, hcs⟩
 simp only [List.cons.injEq, and_true] at hcs;exact ⟨_, _, _, hcs⟩
theorem Gv {m : Nat} {cs : List Value} {y : DataW H × List MemPlace} (h : DataW.trod enc Tryz.prog w 0 (fun _ => true) true m 114 cs = some y) : ∃ a : ak, qo w w.heap.size a cs := by
 have c0 : Tryz.prog.cellsOf 114 = 4 := (by kernel_rfl);have k0 : Tryz.prog.cellsOf 3 = 1 := (by kernel_rfl);have k1 : Tryz.prog.cellsOf 21 = 1 := (by kernel_rfl);have k2 : Tryz.prog.cellsOf 22 = 1 := (by kernel_rfl);have k3 : Tryz.prog.cellsOf 9 = 1 := (by kernel_rfl);obtain ⟨xs, n, _, _, hl, hlen, hf⟩ := DataW.trod_struct Tryz.underlying114 h;rw [c0] at hl;have Mu : xs.length = 4 := hlen;clear hlen;match cs, hl with
 | [u0, u1, u2, u3], _ =>
  obtain ⟨y0, hy0⟩ : ∃ z, xs[0]? = some z := ⟨_, List.getElem?_eq_getElem (by omega)⟩;have f0 : DataW.trod enc Tryz.prog w 0 (fun _ => true) true n 3 (List.take (Tryz.prog.cellsOf 3) (List.drop 0 [u0, u1, u2, u3])) = xs[0]? := hf 0 _ rfl;rw [k0, hy0] at f0;have g0 : DataW.trod enc Tryz.prog w 0 (fun _ => true) true n 3 [u0] = some y0 := f0;obtain ⟨y1, hy1⟩ : ∃ z, xs[1]? = some z := ⟨_, List.getElem?_eq_getElem (by omega)⟩;have f1 : DataW.trod enc Tryz.prog w 0 (fun _ => true) true n 21 (List.take (Tryz.prog.cellsOf 21) (List.drop 1 [u0, u1, u2, u3])) = xs[1]? := hf 1 _ rfl;rw [k1, hy1] at f1;have g1 : DataW.trod enc Tryz.prog w 0 (fun _ => true) true n 21 [u1] = some y1 := f1;obtain ⟨y2, hy2⟩ : ∃ z, xs[2]? = some z := ⟨_, List.getElem?_eq_getElem (by omega)⟩;have f2 : DataW.trod enc Tryz.prog w 0 (fun _ => true) true n 22 (List.take (Tryz.prog.cellsOf 22) (List.drop 2 [u0, u1, u2, u3])) = xs[2]? := hf 2 _ rfl;rw [k2, hy2] at f2;have g2 : DataW.trod enc Tryz.prog w 0 (fun _ => true) true n 22 [u2] = some y2 := f2;obtain ⟨y3, AH⟩ : ∃ z, xs[3]? = some z := ⟨_, List.getElem?_eq_getElem (by omega)⟩;have f3 : DataW.trod enc Tryz.prog w 0 (fun _ => true) true n 9 (List.take (Tryz.prog.cellsOf 9) (List.drop 3 [u0, u1, u2, u3])) = xs[3]? := hf 3 _ rfl;rw [k3, AH] at f3;have g3 : DataW.trod enc Tryz.prog w 0 (fun _ => true) true n 9 [u3] = some y3 := f3;obtain ⟨vk, ek, _, wk⟩ := DataW.trod_int Tryz.underlying3 g0;obtain ⟨vr, er, _, _⟩ := DataW.trod_int Tryz.underlying21 g1;obtain ⟨A, q, c, rfl⟩ := fZ Tryz.underlying22 g2;obtain ⟨q1, q2, ⟨l, hl⟩, _⟩ := ud g2;obtain ⟨vs, es, _, ws⟩ := DataW.trod_string Tryz.underlying9 g3;simp only [List.cons.injEq, and_true] at ek er es;subst ek er es;exact ⟨⟨vk, vr, l, vs⟩, A, q, c, rfl, hl, Nat.le_trans q1 q2, wf_i64 wk, ws⟩
theorem oQ {fuel n c : Nat} {A : Option Addr} {x : DataW H × List MemPlace} (h : DataW.trod enc Tryz.prog w 0 (fun _ => true) true fuel 94 [.slice A n c] = some x) : n ≤ maxLen ∧ ∃ l, bF w w.heap.size A n l := by
 obtain ⟨h1, h2, l, css, hl, hc, hR, hlen, hrd, _⟩ := qT Tryz.underlying94 (sz := 4) (by kernel_rfl) (by decide) h (fun (a : ak) cs => qo w w.heap.size a cs) (fun m cs y hy => Gv hy);exact ⟨Nat.le_trans h1 h2, l, css, hl, hc, hR, hlen, hrd⟩
theorem xx {m : Nat} {cs : List Value} {y : DataW H × List MemPlace} (h : DataW.trod enc Tryz.prog w 0 (fun _ => true) true m 96 cs = some y) : ∃ s : bk, mW w w.heap.size s cs := by
 have c0 : Tryz.prog.cellsOf 96 = 6 := (by kernel_rfl);have k0 : Tryz.prog.cellsOf 4 = 1 := (by kernel_rfl);have k1 : Tryz.prog.cellsOf 94 = 1 := (by kernel_rfl);have k2 : Tryz.prog.cellsOf 3 = 1 := (by kernel_rfl);obtain ⟨xs, n, _, _, hl, hlen, hf⟩ := DataW.trod_struct Tryz.underlying96 h;rw [c0] at hl;have Mu : xs.length = 6 := hlen;clear hlen;match cs, hl with
 | [u0, u1, u2, u3, u4, u5], _ =>
  obtain ⟨y0, hy0⟩ : ∃ z, xs[0]? = some z := ⟨_, List.getElem?_eq_getElem (by omega)⟩;have f0 : DataW.trod enc Tryz.prog w 0 (fun _ => true) true n 4 (List.take (Tryz.prog.cellsOf 4) (List.drop 0 [u0, u1, u2, u3, u4, u5])) = xs[0]? := hf 0 _ rfl;rw [k0, hy0] at f0;have g0 : DataW.trod enc Tryz.prog w 0 (fun _ => true) true n 4 [u0] = some y0 := f0;obtain ⟨y1, hy1⟩ : ∃ z, xs[1]? = some z := ⟨_, List.getElem?_eq_getElem (by omega)⟩;have f1 : DataW.trod enc Tryz.prog w 0 (fun _ => true) true n 4 (List.take (Tryz.prog.cellsOf 4) (List.drop 1 [u0, u1, u2, u3, u4, u5])) = xs[1]? := hf 1 _ rfl;rw [k0, hy1] at f1;have g1 : DataW.trod enc Tryz.prog w 0 (fun _ => true) true n 4 [u1] = some y1 := f1;obtain ⟨y2, hy2⟩ : ∃ z, xs[2]? = some z := ⟨_, List.getElem?_eq_getElem (by omega)⟩;have f2 : DataW.trod enc Tryz.prog w 0 (fun _ => true) true n 94 (List.take (Tryz.prog.cellsOf 94) (List.drop 2 [u0, u1, u2, u3, u4, u5])) = xs[2]? := hf 2 _ rfl;rw [k1, hy2] at f2;have g2 : DataW.trod enc Tryz.prog w 0 (fun _ => true) true n 94 [u2] = some y2 := f2;obtain ⟨y3, AH⟩ : ∃ z, xs[3]? = some z := ⟨_, List.getElem?_eq_getElem (by omega)⟩;have f3 : DataW.trod enc Tryz.prog w 0 (fun _ => true) true n 94 (List.take (Tryz.prog.cellsOf 94) (List.drop 3 [u0, u1, u2, u3, u4, u5])) = xs[3]? := hf 3 _ rfl;rw [k1, AH] at f3;have g3 : DataW.trod enc Tryz.prog w 0 (fun _ => true) true n 94 [u3] = some y3 := f3;obtain ⟨y4, VE⟩ : ∃ z, xs[4]? = some z := ⟨_, List.getElem?_eq_getElem (by omega)⟩;have f4 : DataW.trod enc Tryz.prog w 0 (fun _ => true) true n 94 (List.take (Tryz.prog.cellsOf 94) (List.drop 4 [u0, u1, u2, u3, u4, u5])) = xs[4]? := hf 4 _ rfl;rw [k1, VE] at f4;have g4 : DataW.trod enc Tryz.prog w 0 (fun _ => true) true n 94 [u4] = some y4 := f4;obtain ⟨y5, yU⟩ : ∃ z, xs[5]? = some z := ⟨_, List.getElem?_eq_getElem (by omega)⟩
  have f5 : DataW.trod enc Tryz.prog w 0 (fun _ => true) true n 3 (List.take (Tryz.prog.cellsOf 3) (List.drop 5 [u0, u1, u2, u3, u4, u5])) = xs[5]? := hf 5 _ rfl;rw [k2, yU] at f5;have g5 : DataW.trod enc Tryz.prog w 0 (fun _ => true) true n 3 [u5] = some y5 := f5;obtain ⟨vs, es, _⟩ := DataW.trod_bool Tryz.underlying4 g0;obtain ⟨vf, ef, _⟩ := DataW.trod_bool Tryz.underlying4 g1;obtain ⟨A2, n2, c2, rfl⟩ := fZ Tryz.underlying94 g2;obtain ⟨m2, l2, h2⟩ := oQ g2;obtain ⟨A3, n3, c3, rfl⟩ := fZ Tryz.underlying94 g3;obtain ⟨m3, l3, h3⟩ := oQ g3;obtain ⟨A4, n4, c4, rfl⟩ := fZ Tryz.underlying94 g4;obtain ⟨m4, l4, h4⟩ := oQ g4;obtain ⟨vc, ec, _, wc⟩ := DataW.trod_int Tryz.underlying3 g5;simp only [List.cons.injEq, and_true] at es ef ec;subst es ef ec;exact ⟨⟨vs, vf, l2, l3, l4, vc⟩, A2, n2, c2, A3, n3, c3, A4, n4, c4, rfl, h2, h3, h4, m2, m3, m4, wf_i64 wc⟩
theorem Gd {m : Nat} {cs : List Value} {y : DataW H × List MemPlace} (h : DataW.trod enc Tryz.prog w 0 (fun _ => true) true m 98 cs = some y) : ∃ p : ay, pM w w.heap.size p cs := by
 have c0 : Tryz.prog.cellsOf 98 = 16 := (by kernel_rfl);have k0 : Tryz.prog.cellsOf 3 = 1 := (by kernel_rfl);have k1 : Tryz.prog.cellsOf 9 = 1 := (by kernel_rfl);have k2 : Tryz.prog.cellsOf 22 = 1 := (by kernel_rfl);have k3 : Tryz.prog.cellsOf 96 = 6 := (by kernel_rfl);obtain ⟨xs, n, _, _, hl, hlen, hf⟩ := DataW.trod_struct Tryz.underlying98 h;rw [c0] at hl;have Mu : xs.length = 6 := hlen;clear hlen;match cs, hl with
 | [u0, u1, u2, u3, u4, u5, u6, u7, u8, u9, u10, u11, u12, u13, u14, u15], _ =>
  obtain ⟨y0, hy0⟩ : ∃ z, xs[0]? = some z := ⟨_, List.getElem?_eq_getElem (by omega)⟩;have f0 : DataW.trod enc Tryz.prog w 0 (fun _ => true) true n 3 (List.take (Tryz.prog.cellsOf 3) (List.drop 0 [u0, u1, u2, u3, u4, u5, u6, u7, u8, u9, u10, u11, u12, u13, u14, u15])) = xs[0]? := hf 0 _ rfl;rw [k0, hy0] at f0;have g0 : DataW.trod enc Tryz.prog w 0 (fun _ => true) true n 3 [u0] = some y0 := f0;obtain ⟨y1, hy1⟩ : ∃ z, xs[1]? = some z := ⟨_, List.getElem?_eq_getElem (by omega)⟩;have f1 : DataW.trod enc Tryz.prog w 0 (fun _ => true) true n 9 (List.take (Tryz.prog.cellsOf 9) (List.drop 1 [u0, u1, u2, u3, u4, u5, u6, u7, u8, u9, u10, u11, u12, u13, u14, u15])) = xs[1]? := hf 1 _ rfl;rw [k1, hy1] at f1;have g1 : DataW.trod enc Tryz.prog w 0 (fun _ => true) true n 9 [u1] = some y1 := f1;obtain ⟨y2, hy2⟩ : ∃ z, xs[2]? = some z := ⟨_, List.getElem?_eq_getElem (by omega)⟩;have f2 : DataW.trod enc Tryz.prog w 0 (fun _ => true) true n 22 (List.take (Tryz.prog.cellsOf 22) (List.drop 2 [u0, u1, u2, u3, u4, u5, u6, u7, u8, u9, u10, u11, u12, u13, u14, u15])) = xs[2]? := hf 2 _ rfl;rw [k2, hy2] at f2;have g2 : DataW.trod enc Tryz.prog w 0 (fun _ => true) true n 22 [u2] = some y2 := f2;obtain ⟨y3, AH⟩ : ∃ z, xs[3]? = some z := ⟨_, List.getElem?_eq_getElem (by omega)⟩;have f3 : DataW.trod enc Tryz.prog w 0 (fun _ => true) true n 3 (List.take (Tryz.prog.cellsOf 3) (List.drop 3 [u0, u1, u2, u3, u4, u5, u6, u7, u8, u9, u10, u11, u12, u13, u14, u15])) = xs[3]? := hf 3 _ rfl;rw [k0, AH] at f3;have g3 : DataW.trod enc Tryz.prog w 0 (fun _ => true) true n 3 [u3] = some y3 := f3;obtain ⟨y4, VE⟩ : ∃ z, xs[4]? = some z := ⟨_, List.getElem?_eq_getElem (by omega)⟩
  have f4 : DataW.trod enc Tryz.prog w 0 (fun _ => true) true n 96 (List.take (Tryz.prog.cellsOf 96) (List.drop 4 [u0, u1, u2, u3, u4, u5, u6, u7, u8, u9, u10, u11, u12, u13, u14, u15])) = xs[4]? := hf 4 _ rfl;rw [k3, VE] at f4;have g4 : DataW.trod enc Tryz.prog w 0 (fun _ => true) true n 96 [u4, u5, u6, u7, u8, u9] = some y4 := f4;obtain ⟨y5, yU⟩ : ∃ z, xs[5]? = some z := ⟨_, List.getElem?_eq_getElem (by omega)⟩;have f5 : DataW.trod enc Tryz.prog w 0 (fun _ => true) true n 96 (List.take (Tryz.prog.cellsOf 96) (List.drop 10 [u0, u1, u2, u3, u4, u5, u6, u7, u8, u9, u10, u11, u12, u13, u14, u15])) = xs[5]? := hf 5 _ rfl;rw [k3, yU] at f5;have g5 : DataW.trod enc Tryz.prog w 0 (fun _ => true) true n 96 [u10, u11, u12, u13, u14, u15] = some y5 := f5;obtain ⟨vk, ek, _, wk⟩ := DataW.trod_int Tryz.underlying3 g0;obtain ⟨vs, es, _, ws⟩ := DataW.trod_string Tryz.underlying9 g1;obtain ⟨A, q, c, rfl⟩ := fZ Tryz.underlying22 g2;obtain ⟨q1, q2, ⟨l, hl⟩, _⟩ := ud g2;obtain ⟨vd, ed, _, wd⟩ := DataW.trod_int Tryz.underlying3 g3;obtain ⟨sl, tC⟩ := xx g4;obtain ⟨sr, yp⟩ := xx g5;simp only [List.cons.injEq, and_true] at ek es ed;subst ek es ed;exact ⟨⟨vk, vs, l, vd, sl, sr⟩, A, q, c, _, _, rfl, hl, Nat.le_trans q1 q2, tC, yp, wf_i64 wk, wf_i64 wd, ws⟩
theorem DE {fuel n c : Nat} {A : Option Addr} {x : DataW H × List MemPlace} (h : DataW.trod enc Tryz.prog w 0 (fun _ => true) true fuel 41 [.slice A n c] = some x) :
    n ≤ c ∧ c ≤ maxLen ∧ (∃ l, rX w w.heap.size A n l) ∧ ((x.1 = .nil ∧ c = 0) ∨ ∃ elems spare, x.1 = .slice elems spare ∧ elems.length + spare.length = c) := by
 obtain ⟨h1, h2, l, css, hl, hc, hR, hlen, hrd, hx⟩ := qT Tryz.underlying41 (sz := 16) (by kernel_rfl) (by decide) h (fun (a : ay) cs => pM w w.heap.size a cs) (fun m cs y hy => Gd hy);exact ⟨h1, h2, ⟨l, css, hl, hc, hR, hlen, hrd⟩, hx⟩
end
end Go.Proofs.YthnhbcohfoodlaaGreatDoor
namespace Go.Proofs.YthnhbcohfoodlaaGreatDoor
open Go.RowKit
def fl (w : World) (X : Nat → Prop) (sz : Nat) (A : Option Addr) (n : Nat) (xs : List Value) : Prop :=
  xs.length = n * sz ∧ (0 < n → ∃ b off, A = some ⟨b, off, none⟩ ∧ X b ∧ b < w.heap.size ∧ ∀ j u, xs[j]? = some u → w.cell? ⟨b, off + j, none⟩ = some u)
def ag (w : World) (X : Nat → Prop) (w' : World) (X' : Nat → Prop) : Prop := ∀ b, X b → b < w.heap.size → w'.heap[b]? = w.heap[b]? ∧ X' b ∧ b < w'.heap.size
section
variable {w w' w2 : World} {X X' X2 : Nat → Prop} {sz n : Nat} {A : Option Addr} {xs : List Value}
theorem ag.refl (h : ∀ b, X b → X' b) : ag w X w X' := fun b hb hl => ⟨rfl, h b hb, hl⟩
theorem ag.trans (h : ag w X w' X') (h2 : ag w' X' w2 X2) : ag w X w2 X2 := fun b hb hl =>
  let ⟨e, hx, hl'⟩ := h b hb hl
  let ⟨e2, hx2, jP⟩ := h2 b hx hl'
  ⟨e2.trans e, hx2, jP⟩
theorem ag.below (hb : Below w.heap.size w w') (h : ∀ b, X b → b < w.heap.size → X' b) : ag w X w' X' := fun b hx hl => ⟨hb.block b hl, h b hx hl, Nat.lt_of_lt_of_le hl hb.size⟩
theorem ag.alloc (o : Obj) (h : ∀ b, X b → b < w.heap.size → X' b) : ag w X (w.alloc o) X' := fun b hx hl => ⟨heap_alloc_old w o hl, h b hx hl, by simp; omega⟩
theorem ag.app {base n : Nat} {e : TypeId} {v v' : Value} (ha : bg base e sz v w n xs v' w') (hX : ∀ b, X b → v.ownBlock ≠ some b) (h : ∀ b, X b → b < w.heap.size → X' b) : ag w X w' X' :=
  fun b hx hl => ⟨ha.2.1.block b hl (fun e => hX b hx e.symm), h b hx hl, Nat.lt_of_lt_of_le hl ha.2.1.size⟩
theorem ag.setCell {p : Addr} (u : Value) (hX : ∀ b, X b → b ≠ p.block) (h : ∀ b, X b → b < w.heap.size → X' b) : ag w X (w.setCell p u) X' :=
  fun b hx hl => ⟨Below.heap_setCell _ _ _ _ (hX b hx), h b hx hl, by simpa using hl⟩
theorem fl.keep (hk : ag w X w' X') (h : fl w X sz A n xs) : fl w' X' sz A n xs := by
 refine ⟨h.1, fun hn => ?_⟩;obtain ⟨b, off, e, hx, hl, hc⟩ := h.2 hn;obtain ⟨he, hx', hl'⟩ := hk b hx hl;exact ⟨b, off, e, hx', hl', fun j u hu => (World.cell?_of_block (w := w) he).trans (hc j u hu)⟩
theorem fl.rd {B : Nat} (h : fl w X sz A n xs) (hB : ∀ b, X b → b < w.heap.size → b < B) : Rd w B sz A n xs :=
  ⟨h.1, fun hn => let ⟨b, off, e, hx, hl, hc⟩ := h.2 hn; ⟨b, off, e, hB b hx hl, hc⟩⟩
theorem fl.kN {B : Nat} (h : Rd w B sz A n xs) (hB : B ≤ w.heap.size) (hX : ∀ b, b < B → X b) : fl w X sz A n xs :=
  ⟨h.1, fun hn => let ⟨b, off, e, hb, hc⟩ := h.2 hn; ⟨b, off, e, hX b hb, Nat.lt_of_lt_of_le hb hB, hc⟩⟩
theorem fl.gN {base c : Nat} {e : TypeId} (h : w.ownsRow base e sz (.slice A n c) n xs) (hX : ∀ b, (Value.slice A n c).ownBlock = some b → X b) : fl w X sz A n xs := by
 refine ⟨h.1, fun hn => ?_⟩;rcases h.2 with ⟨hv, h0⟩ | ⟨g, cap, cur, hv, hg, hh, hr⟩;omega;injection hv with hA;subst hA;refine ⟨g, 0, rfl, hX g rfl, (Array.getElem?_eq_some_iff.1 hh).1, fun j u hu => ?_⟩;have := World.ownsRow.cells h (g := g) rfl j u hu;rwa [jW] at this
theorem fl.new (t : TypeId) (cs : List Value) (hl : cs.length = n * sz) (hX : X w.heap.size) : fl (w.alloc (.cells cs.toArray t)) X sz (some ⟨w.heap.size, 0, none⟩) n cs := by
 refine ⟨hl, fun _ => ⟨_, _, rfl, hX, by simp, fun j u hu => ?_⟩⟩;rw [(au.new w t cs.toArray).cell, Nat.zero_add];simpa using hu
end
def eC {α : Type} (R : α → List Value → Prop) (w : World) (X : Nat → Prop) (sz : Nat) (A : Option Addr) (n : Nat) (l : List α) : Prop :=
  ∃ css : List (List Value), l.length = n ∧ css.length = n ∧ (∀ (i : Nat) (a : α) (cs : List Value), l[i]? = some a → css[i]? = some cs → R a cs) ∧ (∀ cs ∈ css, cs.length = sz) ∧ fl w X sz A n css.flatten
theorem eC.len {α : Type} {R : α → List Value → Prop} {w : World} {X : Nat → Prop} {sz n : Nat} {A : Option Addr} {l : List α} (h : eC R w X sz A n l) : l.length = n := by
 obtain ⟨_, h1, _⟩ := h;exact h1
theorem eC.keep {α : Type} {R R' : α → List Value → Prop} {w w' : World} {X X' : Nat → Prop} {sz n : Nat} {A : Option Addr} {l : List α} (hk : ag w X w' X') (hR : ∀ a cs, R a cs → R' a cs) (h : eC R w X sz A n l) : eC R' w' X' sz A n l := by
 obtain ⟨css, h1, h2, h3, h4, h5⟩ := h;exact ⟨css, h1, h2, fun i a cs ha hc => hR a cs (h3 i a cs ha hc), h4, h5.keep hk⟩
theorem eC.at {α : Type} {R : α → List Value → Prop} {w : World} {X : Nat → Prop} {sz n : Nat} {A : Option Addr} {l : List α} (h : eC R w X sz A n l) {k : Nat} {a : α} (hk : l[k]? = some a) :
    ∃ (b off : Nat) (cs : List Value), A = some ⟨b, off, none⟩ ∧ X b ∧ b < w.heap.size ∧ R a cs ∧ cs.length = sz ∧ ∀ j u, cs[j]? = some u → w.cell? ⟨b, off + k * sz + j, none⟩ = some u := by
 obtain ⟨css, h1, h2, h3, h4, h5, h6⟩ := h;have hlt : k < l.length := (List.getElem?_eq_some_iff.1 hk).1;obtain ⟨b, off, e, hx, hb, hc⟩ := h6 (by omega);obtain ⟨cs, hcs⟩ : ∃ cs, css[k]? = some cs := ⟨_, List.getElem?_eq_getElem (by omega)⟩;refine ⟨b, off, cs, e, hx, hb, h3 k a cs hk hcs, h4 cs (List.mem_of_getElem? hcs), fun j u hu => ?_⟩;rw [Nat.add_assoc];exact hc _ _ (fm h4 k cs hcs j u hu)
def dc {α : Type} (R : α → List Value → Prop) (T : TypeId) (sz : Nat) (w : World) (base : Nat) (v : Value) (l : List α) : Prop :=
  ∃ css : List (List Value), css.length = l.length ∧ (∀ (i : Nat) (a : α) (cs : List Value), l[i]? = some a → css[i]? = some cs → R a cs) ∧ (∀ cs ∈ css, cs.length = sz) ∧ w.ownsRow base T sz v l.length css.flatten
section
variable {α : Type} {R R' : α → List Value → Prop} {T : TypeId} {sz base : Nat} {w w' : World} {v v' : Value} {l : List α}
theorem dc.nil (w : World) (base : Nat) : dc R T sz w base (.slice none 0 0) [] := ⟨[], rfl, by simp, by simp, World.ownsRow_nil _ _ _ _⟩
theorem dc.form (h : dc R T sz w base v l) : ∃ A c, v = .slice A l.length c ∧ l.length ≤ c := by
 obtain ⟨_, _, _, _, h4⟩ := h;exact aT h4
theorem dc.weak (hR : ∀ a cs, R a cs → R' a cs) (h : dc R T sz w base v l) : dc R' T sz w base v l := by
 obtain ⟨css, h1, h2, h3, h4⟩ := h;exact ⟨css, h1, fun i a cs ha hc => hR a cs (h2 i a cs ha hc), h3, h4⟩
theorem dc.kept (hw : ∀ n xs, w.ownsRow base T sz v n xs → w'.ownsRow base T sz v n xs) (hR : ∀ a cs, R a cs → R' a cs) (h : dc R T sz w base v l) : dc R' T sz w' base v l := by
 obtain ⟨css, h1, h2, h3, h4⟩ := h;exact ⟨css, h1, fun i a cs ha hc => hR a cs (h2 i a cs ha hc), h3, hw _ _ h4⟩
theorem dc.done {A : Option Addr} {c : Nat} {X : Nat → Prop} (h : dc R T sz w base (.slice A l.length c) l) (hR : ∀ a cs, R a cs → R' a cs) (hX : ∀ b, (Value.slice A l.length c).ownBlock = some b → X b) : eC R' w X sz A l.length l := by
 obtain ⟨css, h1, h2, h3, h4⟩ := h;exact ⟨css, rfl, h1, fun i a cs ha hc => hR a cs (h2 i a cs ha hc), h3, fl.gN h4 hX⟩
end
theorem dc.push {α : Type} {R R' : α → List Value → Prop} {T : TypeId} {sz base : Nat} {w w' : World} {v v' : Value} {l : List α} {css : List (List Value)} {a : α} {cs : List Value}
    (h1 : css.length = l.length) (h2 : ∀ (i : Nat) (a : α) (cs : List Value), l[i]? = some a → css[i]? = some cs → R a cs) (h3 : ∀ cs ∈ css, cs.length = sz)
    (hR : ∀ a cs, R a cs → R' a cs) (ha : R' a cs) (hcs : cs.length = sz) (aB : bg base T sz v w (l.length + 1) (css.flatten ++ cs) v' w') : dc R' T sz w' base v' (l ++ [a]) := by
 refine ⟨css ++ [cs], by simp [h1], ?_, ?_, ?_⟩
 ·intro i x ds hx hd;rcases Nat.lt_or_ge i l.length with hi | hi
  ·rw [List.getElem?_append_left hi] at hx;rw [List.getElem?_append_left (by omega)] at hd;exact hR x ds (h2 i x ds hx hd)
  rw [List.getElem?_append_right hi] at hx;rw [List.getElem?_append_right (by omega), h1] at hd;have hi0 : i - l.length = 0 := by
   have := (List.getElem?_eq_some_iff.1 hx).1;simp at this;omega
  rw [hi0] at hx hd;simp at hx hd;subst hx hd;exact ha
 ·intro ds hd;rcases List.mem_append.1 hd with hd | hd;exact h3 ds hd;simp at hd; subst hd; exact hcs
 have e : (css ++ [cs]).flatten = css.flatten ++ cs := (by simp);have e2 : (l ++ [a]).length = l.length + 1 := (by simp);rw [e, e2];exact aB.own
structure eB where
  start : Bool
  fin : Bool
  before : List af
  source : List af
  after : List af
  target : List Int
  aa : Int
structure fk where
  name : ByteArray
  rules : List eB
structure nP where
  only? : Bool
  only : af
  passes : List fk
def js (w : World) (X : Nat → Prop) (s : af) (u : Value) : Prop := ∃ A n c, u = .slice A n c ∧ fl w X 2 A n (ah s) ∧ n ≤ maxLen
def tw (w : World) (X : Nat → Prop) (s : af) (cs : List Value) : Prop := ∃ u, cs = [u] ∧ js w X s u
def mw (w : World) (X : Nat → Prop) (l : List af) (u : Value) : Prop := ∃ A n c, u = .slice A n c ∧ eC (tw w X) w X 1 A n l ∧ n ≤ maxLen
def eJ (w : World) (X : Nat → Prop) (r : eB) (cs : List Value) : Prop :=
  ∃ u1 u2 u3 A n c, cs = [.bool r.start, .bool r.fin, u1, u2, u3, .slice A n c, .int .i64 r.aa] ∧ mw w X r.before u1 ∧ mw w X r.source u2 ∧ mw w X r.after u3 ∧ fl w X 1 A n (runeCells r.target) ∧ n ≤ maxLen
def yg (w : World) (X : Nat → Prop) (l : List eB) (u : Value) : Prop := ∃ A n c, u = .slice A n c ∧ eC (eJ w X) w X 7 A n l ∧ n ≤ maxLen
def ez (w : World) (X : Nat → Prop) (p : fk) (cs : List Value) : Prop := ∃ u, cs = [.string p.name, u] ∧ yg w X p.rules u
def kM (w : World) (X : Nat → Prop) (l : List fk) (u : Value) : Prop := ∃ A n c, u = .slice A n c ∧ eC (ez w X) w X 2 A n l ∧ n ≤ maxLen
def eK (w : World) (X : Nat → Prop) (s : nP) (cs : List Value) : Prop := ∃ u v, cs = [.bool s.only?, u, v] ∧ js w X s.only u ∧ kM w X s.passes v
section
variable {w w' : World} {X X' : Nat → Prop} (hk : ag w X w' X')
include hk
theorem js.keep {s : af} {u : Value} (h : js w X s u) : js w' X' s u := by
 obtain ⟨A, n, c, e, h1, h2⟩ := h;exact ⟨A, n, c, e, h1.keep hk, h2⟩
theorem tw.keep {s : af} {cs : List Value} (h : tw w X s cs) : tw w' X' s cs := by
 obtain ⟨u, e, h⟩ := h;exact ⟨u, e, h.keep hk⟩
theorem mw.keep {l : List af} {u : Value} (h : mw w X l u) : mw w' X' l u := by
 obtain ⟨A, n, c, e, h1, h2⟩ := h;exact ⟨A, n, c, e, h1.keep hk (fun _ _ => tw.keep hk), h2⟩
theorem eJ.keep {r : eB} {cs : List Value} (h : eJ w X r cs) : eJ w' X' r cs := by
 obtain ⟨u1, u2, u3, A, n, c, e, h1, h2, h3, h4, h5⟩ := h;exact ⟨u1, u2, u3, A, n, c, e, h1.keep hk, h2.keep hk, h3.keep hk, h4.keep hk, h5⟩
theorem yg.keep {l : List eB} {u : Value} (h : yg w X l u) : yg w' X' l u := by
 obtain ⟨A, n, c, e, h1, h2⟩ := h;exact ⟨A, n, c, e, h1.keep hk (fun _ _ => eJ.keep hk), h2⟩
theorem ez.keep {p : fk} {cs : List Value} (h : ez w X p cs) : ez w' X' p cs := by
 obtain ⟨u, e, h⟩ := h;exact ⟨u, e, h.keep hk⟩
theorem kM.keep {l : List fk} {u : Value} (h : kM w X l u) : kM w' X' l u := by
 obtain ⟨A, n, c, e, h1, h2⟩ := h;exact ⟨A, n, c, e, h1.keep hk (fun _ _ => ez.keep hk), h2⟩
theorem eK.keep {s : nP} {cs : List Value} (h : eK w X s cs) : eK w' X' s cs := by
 obtain ⟨u, v, e, h1, h2⟩ := h;exact ⟨u, v, e, h1.keep hk, h2.keep hk⟩
end
theorem bM {wx : World} {v : Value} {base sz n : Nat} {e : TypeId} {xs : List Value} (h : wx.ownsRow base e sz v n xs) {b : Nat} (hb : v.ownBlock = some b) : base ≤ b ∧ b < wx.heap.size := World.ownsRow.lt h b hb
theorem kO {w : World} {g base sz n : Nat} {t e : TypeId} {cs : Array Value} {fz : Nat × Nat} {v : Value} {xs : List Value} (ho : w.ownsRow base e sz v n xs) (h : w.heap[g]? = some (.cells cs t fz)) (hne : t ≠ e) : v.ownBlock ≠ some g := by
 rcases ho.2 with ⟨rfl, _⟩ | ⟨g2, cap, cur, rfl, _, hg, _⟩
 ·simp [Value.ownBlock]
 simp only [Value.ownBlock, ne_eq, Option.some.injEq];rintro rfl;rw [h] at hg;injection hg with hg;injection hg with _ ht;exact hne ht
section
variable {lo : Nat} {w2 : World}
theorem pV {e e2 : TypeId} {sz Tn n m : Nat} {v u u' : Value} {xs ys : List Value} {w0 : World} (h : w0.ownsRow lo e sz v n xs) (ha : bg lo e2 Tn u w0 m ys u' w2) (hne : v.ownBlock ≠ u.ownBlock ∨ v.ownBlock = none) : w2.ownsRow lo e sz v n xs := by
 refine World.ownsRow.kept h ha.2.1 ?_;rcases hne with h | h;exact .inr h;exact .inl h
theorem sv {e e2 : TypeId} {sz Tn n m : Nat} {v u : Value} {xs ys : List Value} {w0 : World} (h : w0.ownsRow lo e sz v n xs) (h2 : w0.ownsRow lo e2 Tn u m ys) (hne : e ≠ e2) : v.ownBlock ≠ u.ownBlock ∨ v.ownBlock = none := by
 rcases h.2 with ⟨hv, _⟩ | ⟨g, cap, cur, hv, _, hg, _⟩
 ·right; rw [hv]; rfl
 left;rw [hv];intro e;exact kO h2 hg hne e.symm
theorem su {u v : Value} (h : ∀ b, u.ownBlock = some b → v.ownBlock ≠ some b) : v.ownBlock ≠ u.ownBlock ∨ v.ownBlock = none := by
 cases hv : v.ownBlock with
 | none => exact .inr rfl
 | some b =>
  left;intro e;exact h b e.symm hv
end
theorem uL {w : World} {base sz n g i : Nat} {e t : TypeId} {v u : Value} {xs : List Value} {cs : Array Value} (h : w.ownsRow base e sz v n xs) (hb : au w g t cs) (hne : t ≠ e) : (w.setCell ⟨g, i, none⟩ u).ownsRow base e sz v n xs := by
 rcases h.2 with ⟨hv, h0⟩ | ⟨k, cap, cur, hv, h1, h2, h3⟩;exact ⟨h.1, .inl ⟨hv, h0⟩⟩;refine ⟨h.1, .inr ⟨k, cap, cur, hv, h1, ?_, h3⟩⟩;rw [Below.heap_setCell _ _ _ _ ?_];exact h2;intro e;simp only at e;subst e;unfold au at hb;rw [hb] at h2;injection h2 with h2;injection h2 with _ ht;exact hne ht
theorem cT {w w' : World} {g base sz n m : Nat} {t e : TypeId} {cs : Array Value} {v v' : Value} {xs ys : List Value} (h : au w g t cs) (ho : w.ownsRow base e sz v n xs) (hne : t ≠ e) (ha : bg base e sz v w m ys v' w') : au w' g t cs := by
 have hlt := h.lt;unfold au at h ⊢;rw [ha.2.1.block g hlt ?_];exact h;intro he;rcases ho.2 with ⟨rfl, _⟩ | ⟨g2, cap, cur, rfl, _, hg, _⟩
 ·simp [Value.ownBlock] at he
 simp only [Value.ownBlock, Option.some.injEq] at he;subst he;rw [h] at hg;injection hg with hg;injection hg with _ ht;exact hne ht
theorem ur {w : World} {g base sz n : Nat} {t e : TypeId} {cs : Array Value} {v : Value} {xs : List Value} (ho : w.ownsRow base e sz v n xs) (h : au w g t cs) (hne : t ≠ e) : v.ownBlock ≠ some g := by
 rcases ho.2 with ⟨rfl, _⟩ | ⟨g2, cap, cur, rfl, _, hg, _⟩
 ·simp [Value.ownBlock]
 simp only [Value.ownBlock, ne_eq, Option.some.injEq];rintro rfl;unfold au at h;rw [h] at hg;injection hg with hg;injection hg with _ ht;exact hne ht
theorem uw {w : World} {lo sz n g i : Nat} {e : TypeId} {v u : Value} {xs : List Value} (h : w.ownsRow lo e sz v n xs) (hg : g < lo) : (w.setCell ⟨g, i, none⟩ u).ownsRow lo e sz v n xs := by
 rcases h.2 with ⟨hv, h0⟩ | ⟨k, cap, cur, hv, h1, h2, h3⟩;exact ⟨h.1, .inl ⟨hv, h0⟩⟩;refine ⟨h.1, .inr ⟨k, cap, cur, hv, h1, ?_, h3⟩⟩;rw [Below.heap_setCell _ _ _ _ (show k ≠ g by omega)];exact h2
theorem uW (l : List Int) (x : Int) : runeCells (l ++ [x]) = runeCells l ++ [.int .i32 x] := by simp [runeCells]
def Ds (_ : Nat) : Prop := True
theorem ag.any {w w' : World} {X : Nat → Prop} (hb : Below w.heap.size w w') : ag w X w' X := ag.below hb (fun _ h _ => h)
theorem fl.of {w : World} {X : Nat → Prop} {sz n : Nat} {A : Option Addr} {xs : List Value} (h : fl w X sz A n xs) : Rd w w.heap.size sz A n xs := h.rd (fun _ _ h => h)
theorem KC {w : World} {X : Nat → Prop} {A : Option Addr} {n : Nat} {l : List af} (h : eC (tw w X) w X 1 A n l) {k : Nat} {s : af} (hk : l[k]? = some s) :
    ∃ (b off : Nat) (A' : Option Addr) (n' c' : Nat), A = some ⟨b, off, none⟩ ∧ X b ∧ b < w.heap.size ∧ w.cell? ⟨b, off + k, none⟩ = some (.slice A' n' c') ∧ kW w w.heap.size A' n' s ∧ fl w X 2 A' n' (ah s) ∧ n' ≤ maxLen := by
 obtain ⟨b, off, cs, e, hx, hb, ⟨u, rfl, A', n', c', rfl, h1, h2⟩, _, hc⟩ := h.at hk;have := hc 0 _ rfl;rw [Nat.mul_one, Nat.add_zero] at this;exact ⟨b, off, A', n', c', e, hx, hb, this, h1.of, h1, h2⟩
end Go.Proofs.YthnhbcohfoodlaaGreatDoor
namespace Go.Proofs.YthnhbcohfoodlaaGreatDoor
open Go.RowKit
def fD : List ay → ByteArray → Option af
  | [], _ => none
  | p :: r, s => if p.kind = 1 ∧ p.name = s then some p.set else fD r s
def tB (l : List ay) (a : ak) : Option af := if a.kind = 1 then some [(a.rune, a.rune)] else if a.kind = 2 then some a.set else fD l a.name
def cj (l : List ay) : List ak → Option (List af)
  | [] => some []
  | a :: r => match tB l a with
    | none => none
    | some s => (cj l r).map (s :: ·)
def eM (l : List ay) (from_ to : bk) : Option eB :=
  match cj l from_.before, cj l from_.source, cj l from_.after with
  | some a, some b, some c => some ⟨from_.start, from_.fin, a, b, c, to.source.map (·.rune), if to.aa < 0 then (to.source.length : Int) else to.aa⟩
  | _, _, _ => none
theorem pG (l : List ay) (a b : List ak) : cj l (a ++ b) = match cj l a, cj l b with
    | some x, some y => some (x ++ y)
    | _, _ => none := by
 induction a with
 | nil => simp [cj]; cases cj l b <;> rfl
 | cons x a ih =>
  rw [List.cons_append, cj, cj, ih];cases tB l x with
  | none => rfl
  | some s => cases cj l a <;> cases cj l b <;> simp
theorem F9 {l : List ay} {x : ak} {s : af} (h : tB l x = some s) : cj l [x] = some [s] := by
 rw [cj, h, cj];rfl
theorem oJ {l : List ay} {L : List ak} {k : Nat} {x : ak} {ll : List af} {s : af} (hx : L[k]? = some x) (h1 : cj l (L.take k) = some ll) (h2 : tB l x = some s) : cj l (L.take (k + 1)) = some (ll ++ [s]) := by
 rw [List.take_add_one, hx];simp only [Option.toList];rw [pG, h1, F9 h2]
theorem Dz {l : List ay} {L : List ak} {k : Nat} {x : ak} (hx : L[k]? = some x) (h2 : tB l x = none) : cj l L = none := by
 have e : L = L.take k ++ x :: L.drop (k + 1) := by
  rw [← jB hx, List.take_append_drop]
 rw [e, pG, cj, h2];cases cj l (L.take k) <;> rfl
theorem Gf {l : List ay} {L : List ak} {ll : List af} (h : cj l L = some ll) : ll.length = L.length := by
 induction L generalizing ll with
 | nil => rw [cj] at h; cases h; rfl
 | cons x L ih =>
  rw [cj] at h;cases hs : tB l x with
  | none => rw [hs] at h; cases h
  | some s =>
   rw [hs] at h;cases h2 : cj l L with
   | none => rw [h2] at h; cases h
   | some m =>
    rw [h2] at h;cases h;simp [ih h2]
theorem J0 (a b : ByteArray) : (a.toList == b.toList) = decide (a = b) := by
 rw [Bool.eq_iff_iff, beq_iff_eq, decide_eq_true_iff, Lib.toList_data, Lib.toList_data];constructor
 ·intro h;exact ByteArray.ext (Array.ext' h)
 intro h;rw [h]
end Go.Proofs.YthnhbcohfoodlaaGreatDoor
namespace Go.Proofs.YthnhbcohfoodlaaGreatDoor
open Go.RowKit
def gh (a : ak) : Int :=
  if a.kind = 1 then (if aU a.rune = true then 0 else 3) else if a.kind = 2 then cm a.set else if a.kind = 3 then (if cV a.name = true then 0 else 7) else 1
def G7 (a : ak) (A : Option Addr) (n c : Nat) : Value := .agg #[.int .i64 a.kind, .int .i32 a.rune, .slice A n c, .string a.name]
theorem rz {w : World} {A : Option Addr} {n : Nat} {l : af} (h : kW w w.heap.size A n l) (o : Obj) : kW (w.alloc o) (w.alloc o).heap.size A n l :=
  dG ((Below.refl _ _).alloc (Nat.le_refl _) o) (by simp) _ _ _ _ h
theorem yC (a : ak) (A : Option Addr) (n c : Nat) (w : World) (hn : n ≤ 9223372036854775807) (hs : kW w w.heap.size A n a.set) :
    Calls Tryz.prog 157 #[G7 a A n c] w fun e w' => e = .returned (.int .i64 (gh a)) ∧ Below w.heap.size w w' := by
 obtain ⟨kind, rune, set, name⟩ := a;have XL : ∀ o, Below w.heap.size w (w.alloc o) := fun o => (Below.refl _ _).alloc (Nat.le_refl _) o;have HS := Lib.hid (rz hs);have HB := Lib.hid XL;clear hs XL;unfold G7 gh;dsimp only;by_cases h1 : kind = 1
 ·subst h1;rw [if_pos rfl];cases hr : aU rune
  all_goals
    go_enter Tryz.func157, Tryz.ntmps157
    go_wp2_with (go_at_call 87; refine (fU _ _).mono ?_; rintro e w' ⟨rfl, rfl⟩; rw [hr])
    go_ret
    exact ⟨rfl, HB.out _⟩
 by_cases h2 : kind = 2
 ·subst h2;rw [if_neg h1, if_pos rfl];go_enter Tryz.func157, Tryz.ntmps157;go_wp2_with fail;refine (iN A n c set _ hn (HS.out _)).mono ?_;rintro e w' ⟨rfl, hb⟩;go_wp2_with fail;go_ret;exact ⟨rfl, (HB.out _).trans (hb.mono (by simp))⟩
 have e1 : (kind == 1) = false := (by simpa using h1);have e2 : (kind == 2) = false := (by simpa using h2);by_cases h3 : kind = 3
 ·subst h3;rw [if_neg h1, if_neg h2, if_pos rfl];cases hr : cV name
  all_goals
    go_enter Tryz.func157, Tryz.ntmps157
    go_wp2_with (go_at_call 24; refine (iV _ _).mono ?_; rintro e w' ⟨rfl, rfl⟩; rw [hr])
    go_ret
    exact ⟨rfl, HB.out _⟩
 have e3 : (kind == 3) = false := (by simpa using h3);rw [if_neg h1, if_neg h2, if_neg h3];clear h1 h2 h3;go_enter Tryz.func157, Tryz.ntmps157;go_wp2_with fail;go_ret;exact ⟨rfl, HB.out _⟩
end Go.Proofs.YthnhbcohfoodlaaGreatDoor
