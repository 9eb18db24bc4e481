/- FileP + ItemOk + BareD + OpenParts + PartX + SameItems + FileZero -/
import Derived.Test.YthnhbcohfoodlaaGreatDoorZt11
import Derived.Deep.Strs
import Derived.Test.YthnhbcohfoodlaaGreatDoorZt13
import Derived.Test.YthnhbcohfoodlaaGreatDoorZt10
namespace Go.Proofs.YthnhbcohfoodlaaGreatDoor
open Go.RowKit
def fileGo : Nat → List PartD → Int × Int
 | _, [] => (0, 0)
 | i, p :: r => if partP p = 0 then fileGo (i + 1) r else (partP p, i)
def fileP (l : List PartD) : Int × Int := if 200 < l.length then (5, 0) else fileGo 0 l
theorem part_at {w : World} {B n : Nat} {A : Option Addr} {l : List PartD} (h : RdP w B A n l) {k : Nat} {p : PartD} (hk : l[k]? = some p) :
 ∃ (b off : Nat) (A' : Option Addr) (n' c' : Nat) (L1 L2 L3 R1 R2 R3 : Option Addr) (a1 a2 a3 x1 x2 x3 b1 b2 b3 y1 y2 y3 : Nat), A = some ⟨b, off, none⟩ ∧ b < B ∧ (w.cell? ⟨b, off + k * 16, none⟩ = some (.int .i64 p.kind) ∧ w.cell? ⟨b, off + k * 16 + 1, none⟩ = some (.string p.name) ∧ w.cell? ⟨b, off + k * 16 + 2, none⟩ = some (.slice A' n' c') ∧ w.cell? ⟨b, off + k * 16 + 3, none⟩ = some (.int .i64 p.dir) ∧ w.cell? ⟨b, off + k * 16 + 4, none⟩ = some (.bool p.left.start) ∧ w.cell? ⟨b, off + k * 16 + 5, none⟩ = some (.bool p.left.fin) ∧ w.cell? ⟨b, off + k * 16 + 6, none⟩ = some (.slice L1 a1 x1) ∧ w.cell? ⟨b, off + k * 16 + 7, none⟩ = some (.slice L2 a2 x2) ∧ w.cell? ⟨b, off + k * 16 + 8, none⟩ = some (.slice L3 a3 x3) ∧ w.cell? ⟨b, off + k * 16 + 9, none⟩ = some (.int .i64 p.left.cursor) ∧ w.cell? ⟨b, off + k * 16 + 10, none⟩ = some (.bool p.right.start) ∧ w.cell? ⟨b, off + k * 16 + 11, none⟩ = some (.bool p.right.fin) ∧ w.cell? ⟨b, off + k * 16 + 12, none⟩ = some (.slice R1 b1 y1) ∧ w.cell? ⟨b, off + k * 16 + 13, none⟩ = some (.slice R2 b2 y2) ∧ w.cell? ⟨b, off + k * 16 + 14, none⟩ = some (.slice R3 b3 y3) ∧ w.cell? ⟨b, off + k * 16 + 15, none⟩ = some (.int .i64 p.right.cursor)) ∧ RdS w B A' n' p.set ∧ n' ≤ maxLen ∧ RdIt w B L1 a1 p.left.before ∧ RdIt w B L2 a2 p.left.source ∧ RdIt w B L3 a3 p.left.after ∧ a1 ≤ maxLen ∧ a2 ≤ maxLen ∧ a3 ≤ maxLen ∧ RdIt w B R1 b1 p.right.before ∧ RdIt w B R2 b2 p.right.source ∧ RdIt w B R3 b3 p.right.after ∧ b1 ≤ maxLen ∧ b2 ≤ maxLen ∧ b3 ≤ maxLen ∧ i64R p.left.cursor ∧ i64R p.right.cursor ∧ p.name.size ≤ maxLen := by
 obtain ⟨b, off, cs, e, hb, ⟨A', n', c', ls, rs, hcs, h1, h2, ⟨L1, a1, x1, L2, a2, x2, L3, a3, x3, hls, l1, l2, l3, l4, l5, l6, l7⟩, ⟨R1, b1, y1, R2, b2, y2, R3, b3, y3, hrs, r1, r2, r3, r4, r5, r6, r7⟩, _, _, h5⟩, hc⟩ := RdL.at h hk
 subst hls hrs
 subst hcs
 exact ⟨b, off, A', n', c', L1, L2, L3, R1, R2, R3, a1, a2, a3, x1, x2, x3, b1, b2, b3, y1, y2, y3, e, hb, ⟨hc 0 _ rfl, hc 1 _ rfl, hc 2 _ rfl, hc 3 _ rfl, hc 4 _ rfl, hc 5 _ rfl, hc 6 _ rfl, hc 7 _ rfl, hc 8 _ rfl, hc 9 _ rfl, hc 10 _ rfl, hc 11 _ rfl, hc 12 _ rfl, hc 13 _ rfl, hc 14 _ rfl, hc 15 _ rfl⟩, h1, h2, l1, l2, l3, l4, l5, l6, r1, r2, r3, r4, r5, r6, l7, r7, h5⟩
def WrRel (w : World) (l : List PartD) (n : Nat) (i : Value) (wr : World) : Prop :=
 ∃ k : Nat, k ≤ n ∧ i = .int .i64 k ∧ fileGo 0 l = fileGo k (l.drop k) ∧ Blk wr w.heap.size 25 #[.int .i64 0, .int .i64 0] ∧ Below w.heap.size w wr
end Go.Proofs.YthnhbcohfoodlaaGreatDoor

namespace Go.Proofs.YthnhbcohfoodlaaGreatDoor
open Go.RowKit
theorem items_ok {l : List ItemD} (h : itemsP l = 0) : l.length ≤ 20 ∧ ∀ a ∈ l, itemP a = 0 := by
 have h20 := items_small h
 refine ⟨h20, ?_⟩
 unfold itemsP at h
 rw [if_neg (by omega)] at h
 clear h20
 induction l with
 | nil => simp
 | cons a l ih =>
   rw [itemsGo] at h
   by_cases h1 : itemP a = 0
   ·rw [if_pos h1] at h
    intro x hx
    rcases List.mem_cons.1 hx with rfl | hx
    ·exact h1
    ·exact ih h x hx
   ·rw [if_neg h1] at h
    exact absurd h h1
theorem item_kinds {a : ItemD} (h : itemP a = 0) : (a.kind = 1 ∧ rightB a.rune = true) ∨ (a.kind = 2 ∧ wrongP a.set = 0) ∨ (a.kind = 3 ∧ namedP a.name = true) := by
 unfold itemP at h
 by_cases h1 : a.kind = 1
 ·rw [if_pos h1] at h
  cases hr : rightB a.rune
  ·rw [hr] at h; simp at h
  ·exact .inl ⟨h1, rfl⟩
 rw [if_neg h1] at h
 by_cases h2 : a.kind = 2
 ·rw [if_pos h2] at h
  exact .inr (.inl ⟨h2, h⟩)
 rw [if_neg h2] at h
 by_cases h3 : a.kind = 3
 ·rw [if_pos h3] at h
  cases hr : namedP a.name
  ·rw [hr] at h; simp at h
  ·exact .inr (.inr ⟨h3, rfl⟩)
 rw [if_neg h3] at h
 cases h
theorem named_len {s : ByteArray} (h : namedP s = true) : s.size ≤ 20 := by
 unfold namedP at h
 rw [decide_eq_true_iff] at h
 exact h.2.1
theorem side_ok {s : SideD} {must : Bool} (h : sideP s must = 0) : itemsP s.before = 0 ∧ itemsP s.source = 0 ∧ itemsP s.after = 0 := by
 unfold sideP at h
 by_cases h0 : itemsAll [s.before, s.source, s.after] = 0
 ·simp only [itemsAll] at h0
  by_cases h1 : itemsP s.before = 0
  ·rw [if_pos h1] at h0
   by_cases h2 : itemsP s.source = 0
   ·rw [if_pos h2] at h0
    by_cases h3 : itemsP s.after = 0
    ·exact ⟨h1, h2, h3⟩
    ·rw [if_neg h3] at h0; exact absurd h0 h3
   ·rw [if_neg h2] at h0; exact absurd h0 h2
  ·rw [if_neg h1] at h0; exact absurd h0 h1
 ·rw [if_neg h0] at h
  exact absurd h h0
def RuleOk (p : PartD) : Prop :=
 (p.dir = 1 ∨ p.dir = 2 ∨ p.dir = 3) ∧ (itemsP p.left.before = 0 ∧ itemsP p.left.source = 0 ∧ itemsP p.left.after = 0) ∧ (itemsP p.right.before = 0 ∧ itemsP p.right.source = 0 ∧ itemsP p.right.after = 0)
theorem part_kinds {p : PartD} (h : partP p = 0) : (p.kind = 1 ∧ namedP p.name = true ∧ wrongP p.set = 0) ∨ (p.kind = 3 ∧ wrongP p.set = 0) ∨ (p.kind = 4 ∧ passB p.name = true) ∨ (p.kind = 2 ∧ RuleOk p) := by
 unfold partP at h
 by_cases h1 : p.kind = 1
 ·rw [if_pos h1] at h
  cases hn : namedP p.name
  ·rw [hn] at h; simp at h
  ·rw [hn, if_pos rfl] at h
   exact .inl ⟨h1, rfl, h⟩
 rw [if_neg h1] at h
 by_cases h3 : p.kind = 3
 ·rw [if_pos h3] at h
  exact .inr (.inl ⟨h3, h⟩)
 rw [if_neg h3] at h
 by_cases h4 : p.kind = 4
 ·rw [if_pos h4] at h
  cases hn : passB p.name
  ·rw [hn] at h; simp at h
  ·exact .inr (.inr (.inl ⟨h4, rfl⟩))
 rw [if_neg h4] at h
 by_cases h2 : p.kind = 2
 ·rw [if_pos h2] at h
  unfold ruleP at h
  by_cases hd : p.dir < 1 ∨ 3 < p.dir
  ·rw [if_pos hd] at h; cases h
  rw [if_neg hd] at h
  by_cases hl : sideP p.left (p.dir != 2) = 0
  ·rw [if_pos hl] at h
   by_cases hr : sideP p.right (p.dir != 1) = 0
   ·exact .inr (.inr (.inr ⟨h2, by omega, side_ok hl, side_ok hr⟩))
   ·rw [if_neg hr] at h; exact absurd h hr
  ·rw [if_neg hl] at h; exact absurd h hl
 rw [if_neg h2] at h
 cases h
theorem fileGo_ok {l : List PartD} : ∀ i, (fileGo i l).1 = 0 → fileGo i l = (0, 0) ∧ ∀ p ∈ l, partP p = 0 := by
 induction l with
 | nil => intro i _; exact ⟨rfl, by simp⟩
 | cons p l ih =>
   intro i h
   rw [fileGo] at h ⊢
   by_cases h1 : partP p = 0
   ·rw [if_pos h1] at h ⊢
    obtain ⟨h2, h3⟩ := ih (i + 1) h
    refine ⟨h2, fun q hq => ?_⟩
    rcases List.mem_cons.1 hq with rfl | hq
    ·exact h1
    ·exact h3 q hq
   ·rw [if_neg h1] at h
    exact absurd h h1
theorem file_ok {l : List PartD} (h : (fileP l).1 = 0) : l.length ≤ 200 ∧ fileP l = (0, 0) ∧ ∀ p ∈ l, partP p = 0 := by
 unfold fileP at h ⊢
 by_cases h2 : 200 < l.length
 ·rw [if_pos h2] at h; cases h
 ·rw [if_neg h2] at h ⊢
  obtain ⟨h3, h4⟩ := fileGo_ok 0 h
  exact ⟨by omega, h3, h4⟩
end Go.Proofs.YthnhbcohfoodlaaGreatDoor

namespace Go.Proofs.YthnhbcohfoodlaaGreatDoor
open Go.RowKit
def bareI (a : ItemD) : ItemD := ⟨a.kind, if a.kind = 1 then a.rune else 0, if a.kind = 2 then a.set else [], if a.kind = 3 then a.name else ⟨#[]⟩⟩
def bareS (s : SideD) : SideD := ⟨s.start, s.fin, s.before.map bareI, s.source.map bareI, s.after.map bareI, s.cursor⟩
def zeroS : SideD := ⟨false, false, [], [], [], 0⟩
def bareD (p : PartD) : PartD := ⟨p.kind, if p.kind = 1 ∨ p.kind = 4 then p.name else ⟨#[]⟩, if p.kind = 1 ∨ p.kind = 3 then p.set else [], if p.kind = 2 then p.dir else 0, if p.kind = 2 then bareS p.left else zeroS, if p.kind = 2 then bareS p.right else zeroS⟩
end Go.Proofs.YthnhbcohfoodlaaGreatDoor

namespace Go.Proofs.YthnhbcohfoodlaaGreatDoor
open Go.RowKit Go.ChangeShapes Go.WideShapes Go.ChangeAt
section
variable {H : Type} {enc : TypeId × Value → H} {w : World}
theorem wf_i64 {n : Int} (h : (Lit.int .i64 n).wf = true) : i64R n := by
 simp [Lit.wf, IntKind.min, IntKind.max, IntKind.bits, IntKind.signed] at h
 exact h
theorem trod_slice_one {e t : TypeId} {m : Nat} {v : Value} {y : DataW H × List MemPlace} (ht : Tryz.prog.underlying t = some (.slice e)) (h : DataW.trod enc Tryz.prog w 0 (fun _ => true) true m t [v] = some y) : ∃ A n c, v = .slice A n c := by
 rcases Deep.open_slice ht h with ⟨hcs, _⟩ | ⟨a, len, cap, m, f, D, Pl, hcs, _⟩
 ·simp only [List.cons.injEq, and_true] at hcs
  exact ⟨none, 0, 0, hcs⟩
 ·simp only [List.cons.injEq, and_true] at hcs
  exact ⟨_, _, _, hcs⟩
set_option maxRecDepth 100000 in
theorem trod_item {m : Nat} {cs : List Value} {y : DataW H × List MemPlace} (h : DataW.trod enc Tryz.prog w 0 (fun _ => true) true m 114 cs = some y) : ∃ a : ItemD, ItemC w w.heap.size a cs := by
 have c0 : Tryz.prog.cellsOf 114 = 4 := by kernel_rfl
 have k0 : Tryz.prog.cellsOf 3 = 1 := by kernel_rfl
 have k1 : Tryz.prog.cellsOf 21 = 1 := by kernel_rfl
 have k2 : Tryz.prog.cellsOf 22 = 1 := by kernel_rfl
 have k3 : Tryz.prog.cellsOf 9 = 1 := by kernel_rfl
 obtain ⟨xs, n, _, _, hl, hlen, hf⟩ := DataW.trod_struct Tryz.underlying114 h
 rw [c0] at hl
 have hlen2 : xs.length = 4 := hlen
 clear hlen
 match cs, hl with
 | [u0, u1, u2, u3], _ =>
   obtain ⟨y0, hy0⟩ : ∃ z, xs[0]? = some z := ⟨_, List.getElem?_eq_getElem (by omega)⟩
   have f0 : DataW.trod enc Tryz.prog w 0 (fun _ => true) true n 3 (List.take (Tryz.prog.cellsOf 3) (List.drop 0 [u0, u1, u2, u3])) = xs[0]? := hf 0 _ rfl
   rw [k0, hy0] at f0
   have g0 : DataW.trod enc Tryz.prog w 0 (fun _ => true) true n 3 [u0] = some y0 := f0
   obtain ⟨y1, hy1⟩ : ∃ z, xs[1]? = some z := ⟨_, List.getElem?_eq_getElem (by omega)⟩
   have f1 : DataW.trod enc Tryz.prog w 0 (fun _ => true) true n 21 (List.take (Tryz.prog.cellsOf 21) (List.drop 1 [u0, u1, u2, u3])) = xs[1]? := hf 1 _ rfl
   rw [k1, hy1] at f1
   have g1 : DataW.trod enc Tryz.prog w 0 (fun _ => true) true n 21 [u1] = some y1 := f1
   obtain ⟨y2, hy2⟩ : ∃ z, xs[2]? = some z := ⟨_, List.getElem?_eq_getElem (by omega)⟩
   have f2 : DataW.trod enc Tryz.prog w 0 (fun _ => true) true n 22 (List.take (Tryz.prog.cellsOf 22) (List.drop 2 [u0, u1, u2, u3])) = xs[2]? := hf 2 _ rfl
   rw [k2, hy2] at f2
   have g2 : DataW.trod enc Tryz.prog w 0 (fun _ => true) true n 22 [u2] = some y2 := f2
   obtain ⟨y3, hy3⟩ : ∃ z, xs[3]? = some z := ⟨_, List.getElem?_eq_getElem (by omega)⟩
   have f3 : DataW.trod enc Tryz.prog w 0 (fun _ => true) true n 9 (List.take (Tryz.prog.cellsOf 9) (List.drop 3 [u0, u1, u2, u3])) = xs[3]? := hf 3 _ rfl
   rw [k3, hy3] at f3
   have g3 : DataW.trod enc Tryz.prog w 0 (fun _ => true) true n 9 [u3] = some y3 := f3
   obtain ⟨vk, ek, _, wk⟩ := DataW.trod_int Tryz.underlying3 g0
   obtain ⟨vr, er, _, _⟩ := DataW.trod_int Tryz.underlying21 g1
   obtain ⟨A, q, c, rfl⟩ := trod_slice_one Tryz.underlying22 g2
   obtain ⟨q1, q2, ⟨l, hl⟩, _⟩ := open_spans g2
   obtain ⟨vs, es, _, ws⟩ := DataW.trod_string Tryz.underlying9 g3
   simp only [List.cons.injEq, and_true] at ek er es
   subst ek er es
   exact ⟨⟨vk, vr, l, vs⟩, A, q, c, rfl, hl, Nat.le_trans q1 q2, wf_i64 wk, ws⟩
theorem open_items {fuel n c : Nat} {A : Option Addr} {x : DataW H × List MemPlace} (h : DataW.trod enc Tryz.prog w 0 (fun _ => true) true fuel 94 [.slice A n c] = some x) : n ≤ maxLen ∧ ∃ l, RdIt w w.heap.size A n l := by
 obtain ⟨h1, h2, l, css, hl, hc, hR, hlen, hrd, _⟩ := open_list Tryz.underlying94 (sz := 4) (by kernel_rfl) (by decide) h (fun (a : ItemD) cs => ItemC w w.heap.size a cs) (fun m cs y hy => trod_item hy)
 exact ⟨Nat.le_trans h1 h2, l, css, hl, hc, hR, hlen, hrd⟩
set_option maxRecDepth 100000 in
theorem trod_side {m : Nat} {cs : List Value} {y : DataW H × List MemPlace} (h : DataW.trod enc Tryz.prog w 0 (fun _ => true) true m 96 cs = some y) : ∃ s : SideD, SideC w w.heap.size s cs := by
 have c0 : Tryz.prog.cellsOf 96 = 6 := by kernel_rfl
 have k0 : Tryz.prog.cellsOf 4 = 1 := by kernel_rfl
 have k1 : Tryz.prog.cellsOf 94 = 1 := by kernel_rfl
 have k2 : Tryz.prog.cellsOf 3 = 1 := by kernel_rfl
 obtain ⟨xs, n, _, _, hl, hlen, hf⟩ := DataW.trod_struct Tryz.underlying96 h
 rw [c0] at hl
 have hlen2 : xs.length = 6 := hlen
 clear hlen
 match cs, hl with
 | [u0, u1, u2, u3, u4, u5], _ =>
   obtain ⟨y0, hy0⟩ : ∃ z, xs[0]? = some z := ⟨_, List.getElem?_eq_getElem (by omega)⟩
   have f0 : DataW.trod enc Tryz.prog w 0 (fun _ => true) true n 4 (List.take (Tryz.prog.cellsOf 4) (List.drop 0 [u0, u1, u2, u3, u4, u5])) = xs[0]? := hf 0 _ rfl
   rw [k0, hy0] at f0
   have g0 : DataW.trod enc Tryz.prog w 0 (fun _ => true) true n 4 [u0] = some y0 := f0
   obtain ⟨y1, hy1⟩ : ∃ z, xs[1]? = some z := ⟨_, List.getElem?_eq_getElem (by omega)⟩
   have f1 : DataW.trod enc Tryz.prog w 0 (fun _ => true) true n 4 (List.take (Tryz.prog.cellsOf 4) (List.drop 1 [u0, u1, u2, u3, u4, u5])) = xs[1]? := hf 1 _ rfl
   rw [k0, hy1] at f1
   have g1 : DataW.trod enc Tryz.prog w 0 (fun _ => true) true n 4 [u1] = some y1 := f1
   obtain ⟨y2, hy2⟩ : ∃ z, xs[2]? = some z := ⟨_, List.getElem?_eq_getElem (by omega)⟩
   have f2 : DataW.trod enc Tryz.prog w 0 (fun _ => true) true n 94 (List.take (Tryz.prog.cellsOf 94) (List.drop 2 [u0, u1, u2, u3, u4, u5])) = xs[2]? := hf 2 _ rfl
   rw [k1, hy2] at f2
   have g2 : DataW.trod enc Tryz.prog w 0 (fun _ => true) true n 94 [u2] = some y2 := f2
   obtain ⟨y3, hy3⟩ : ∃ z, xs[3]? = some z := ⟨_, List.getElem?_eq_getElem (by omega)⟩
   have f3 : DataW.trod enc Tryz.prog w 0 (fun _ => true) true n 94 (List.take (Tryz.prog.cellsOf 94) (List.drop 3 [u0, u1, u2, u3, u4, u5])) = xs[3]? := hf 3 _ rfl
   rw [k1, hy3] at f3
   have g3 : DataW.trod enc Tryz.prog w 0 (fun _ => true) true n 94 [u3] = some y3 := f3
   obtain ⟨y4, hy4⟩ : ∃ z, xs[4]? = some z := ⟨_, List.getElem?_eq_getElem (by omega)⟩
   have f4 : DataW.trod enc Tryz.prog w 0 (fun _ => true) true n 94 (List.take (Tryz.prog.cellsOf 94) (List.drop 4 [u0, u1, u2, u3, u4, u5])) = xs[4]? := hf 4 _ rfl
   rw [k1, hy4] at f4
   have g4 : DataW.trod enc Tryz.prog w 0 (fun _ => true) true n 94 [u4] = some y4 := f4
   obtain ⟨y5, hy5⟩ : ∃ z, xs[5]? = some z := ⟨_, List.getElem?_eq_getElem (by omega)⟩
   have f5 : DataW.trod enc Tryz.prog w 0 (fun _ => true) true n 3 (List.take (Tryz.prog.cellsOf 3) (List.drop 5 [u0, u1, u2, u3, u4, u5])) = xs[5]? := hf 5 _ rfl
   rw [k2, hy5] at f5
   have g5 : DataW.trod enc Tryz.prog w 0 (fun _ => true) true n 3 [u5] = some y5 := f5
   obtain ⟨vs, es, _⟩ := DataW.trod_bool Tryz.underlying4 g0
   obtain ⟨vf, ef, _⟩ := DataW.trod_bool Tryz.underlying4 g1
   obtain ⟨A2, n2, c2, rfl⟩ := trod_slice_one Tryz.underlying94 g2
   obtain ⟨m2, l2, h2⟩ := open_items g2
   obtain ⟨A3, n3, c3, rfl⟩ := trod_slice_one Tryz.underlying94 g3
   obtain ⟨m3, l3, h3⟩ := open_items g3
   obtain ⟨A4, n4, c4, rfl⟩ := trod_slice_one Tryz.underlying94 g4
   obtain ⟨m4, l4, h4⟩ := open_items g4
   obtain ⟨vc, ec, _, wc⟩ := DataW.trod_int Tryz.underlying3 g5
   simp only [List.cons.injEq, and_true] at es ef ec
   subst es ef ec
   exact ⟨⟨vs, vf, l2, l3, l4, vc⟩, A2, n2, c2, A3, n3, c3, A4, n4, c4, rfl, h2, h3, h4, m2, m3, m4, wf_i64 wc⟩
set_option maxRecDepth 100000 in
theorem trod_part {m : Nat} {cs : List Value} {y : DataW H × List MemPlace} (h : DataW.trod enc Tryz.prog w 0 (fun _ => true) true m 98 cs = some y) : ∃ p : PartD, PartC w w.heap.size p cs := by
 have c0 : Tryz.prog.cellsOf 98 = 16 := by kernel_rfl
 have k0 : Tryz.prog.cellsOf 3 = 1 := by kernel_rfl
 have k1 : Tryz.prog.cellsOf 9 = 1 := by kernel_rfl
 have k2 : Tryz.prog.cellsOf 22 = 1 := by kernel_rfl
 have k3 : Tryz.prog.cellsOf 96 = 6 := by kernel_rfl
 obtain ⟨xs, n, _, _, hl, hlen, hf⟩ := DataW.trod_struct Tryz.underlying98 h
 rw [c0] at hl
 have hlen2 : xs.length = 6 := hlen
 clear hlen
 match cs, hl with
 | [u0, u1, u2, u3, u4, u5, u6, u7, u8, u9, u10, u11, u12, u13, u14, u15], _ =>
   obtain ⟨y0, hy0⟩ : ∃ z, xs[0]? = some z := ⟨_, List.getElem?_eq_getElem (by omega)⟩
   have f0 : DataW.trod enc Tryz.prog w 0 (fun _ => true) true n 3 (List.take (Tryz.prog.cellsOf 3) (List.drop 0 [u0, u1, u2, u3, u4, u5, u6, u7, u8, u9, u10, u11, u12, u13, u14, u15])) = xs[0]? := hf 0 _ rfl
   rw [k0, hy0] at f0
   have g0 : DataW.trod enc Tryz.prog w 0 (fun _ => true) true n 3 [u0] = some y0 := f0
   obtain ⟨y1, hy1⟩ : ∃ z, xs[1]? = some z := ⟨_, List.getElem?_eq_getElem (by omega)⟩
   have f1 : DataW.trod enc Tryz.prog w 0 (fun _ => true) true n 9 (List.take (Tryz.prog.cellsOf 9) (List.drop 1 [u0, u1, u2, u3, u4, u5, u6, u7, u8, u9, u10, u11, u12, u13, u14, u15])) = xs[1]? := hf 1 _ rfl
   rw [k1, hy1] at f1
   have g1 : DataW.trod enc Tryz.prog w 0 (fun _ => true) true n 9 [u1] = some y1 := f1
   obtain ⟨y2, hy2⟩ : ∃ z, xs[2]? = some z := ⟨_, List.getElem?_eq_getElem (by omega)⟩
   have f2 : DataW.trod enc Tryz.prog w 0 (fun _ => true) true n 22 (List.take (Tryz.prog.cellsOf 22) (List.drop 2 [u0, u1, u2, u3, u4, u5, u6, u7, u8, u9, u10, u11, u12, u13, u14, u15])) = xs[2]? := hf 2 _ rfl
   rw [k2, hy2] at f2
   have g2 : DataW.trod enc Tryz.prog w 0 (fun _ => true) true n 22 [u2] = some y2 := f2
   obtain ⟨y3, hy3⟩ : ∃ z, xs[3]? = some z := ⟨_, List.getElem?_eq_getElem (by omega)⟩
   have f3 : DataW.trod enc Tryz.prog w 0 (fun _ => true) true n 3 (List.take (Tryz.prog.cellsOf 3) (List.drop 3 [u0, u1, u2, u3, u4, u5, u6, u7, u8, u9, u10, u11, u12, u13, u14, u15])) = xs[3]? := hf 3 _ rfl
   rw [k0, hy3] at f3
   have g3 : DataW.trod enc Tryz.prog w 0 (fun _ => true) true n 3 [u3] = some y3 := f3
   obtain ⟨y4, hy4⟩ : ∃ z, xs[4]? = some z := ⟨_, List.getElem?_eq_getElem (by omega)⟩
   have f4 : DataW.trod enc Tryz.prog w 0 (fun _ => true) true n 96 (List.take (Tryz.prog.cellsOf 96) (List.drop 4 [u0, u1, u2, u3, u4, u5, u6, u7, u8, u9, u10, u11, u12, u13, u14, u15])) = xs[4]? := hf 4 _ rfl
   rw [k3, hy4] at f4
   have g4 : DataW.trod enc Tryz.prog w 0 (fun _ => true) true n 96 [u4, u5, u6, u7, u8, u9] = some y4 := f4
   obtain ⟨y5, hy5⟩ : ∃ z, xs[5]? = some z := ⟨_, List.getElem?_eq_getElem (by omega)⟩
   have f5 : DataW.trod enc Tryz.prog w 0 (fun _ => true) true n 96 (List.take (Tryz.prog.cellsOf 96) (List.drop 10 [u0, u1, u2, u3, u4, u5, u6, u7, u8, u9, u10, u11, u12, u13, u14, u15])) = xs[5]? := hf 5 _ rfl
   rw [k3, hy5] at f5
   have g5 : DataW.trod enc Tryz.prog w 0 (fun _ => true) true n 96 [u10, u11, u12, u13, u14, u15] = some y5 := f5
   obtain ⟨vk, ek, _, wk⟩ := DataW.trod_int Tryz.underlying3 g0
   obtain ⟨vs, es, _, ws⟩ := DataW.trod_string Tryz.underlying9 g1
   obtain ⟨A, q, c, rfl⟩ := trod_slice_one Tryz.underlying22 g2
   obtain ⟨q1, q2, ⟨l, hl⟩, _⟩ := open_spans g2
   obtain ⟨vd, ed, _, wd⟩ := DataW.trod_int Tryz.underlying3 g3
   obtain ⟨sl, hsl⟩ := trod_side g4
   obtain ⟨sr, hsr⟩ := trod_side g5
   simp only [List.cons.injEq, and_true] at ek es ed
   subst ek es ed
   exact ⟨⟨vk, vs, l, vd, sl, sr⟩, A, q, c, _, _, rfl, hl, Nat.le_trans q1 q2, hsl, hsr, wf_i64 wk, wf_i64 wd, ws⟩
theorem open_parts {fuel n c : Nat} {A : Option Addr} {x : DataW H × List MemPlace} (h : DataW.trod enc Tryz.prog w 0 (fun _ => true) true fuel 41 [.slice A n c] = some x) :
 n ≤ c ∧ c ≤ maxLen ∧ (∃ l, RdP w w.heap.size A n l) ∧ ((x.1 = .nil ∧ c = 0) ∨ ∃ elems spare, x.1 = .slice elems spare ∧ elems.length + spare.length = c) := by
 obtain ⟨h1, h2, l, css, hl, hc, hR, hlen, hrd, hx⟩ := open_list Tryz.underlying41 (sz := 16) (by kernel_rfl) (by decide) h (fun (a : PartD) cs => PartC w w.heap.size a cs) (fun m cs y hy => trod_part hy)
 exact ⟨h1, h2, ⟨l, css, hl, hc, hR, hlen, hrd⟩, hx⟩
end
end Go.Proofs.YthnhbcohfoodlaaGreatDoor

namespace Go.Proofs.YthnhbcohfoodlaaGreatDoor
open Go.RowKit
def ItemX (w : World) (X : Nat → Prop) (a : ItemD) (cs : List Value) : Prop :=
 ∃ A n c, cs = [.int .i64 a.kind, .int .i32 a.rune, .slice A n c, .string a.name] ∧ RdX w X 2 A n (spanCells a.set) ∧ n ≤ maxLen ∧ i64R a.kind ∧ a.name.size ≤ maxLen
def ItemsX (w : World) (X : Nat → Prop) (A : Option Addr) (n : Nat) (l : List ItemD) : Prop := ListX (ItemX w X) w X 4 A n l
def SideX (w : World) (X : Nat → Prop) (s : SideD) (cs : List Value) : Prop :=
 ∃ A1 n1 c1 A2 n2 c2 A3 n3 c3, cs = [.bool s.start, .bool s.fin, .slice A1 n1 c1, .slice A2 n2 c2, .slice A3 n3 c3, .int .i64 s.cursor] ∧
  ItemsX w X A1 n1 s.before ∧ ItemsX w X A2 n2 s.source ∧ ItemsX w X A3 n3 s.after ∧ n1 ≤ maxLen ∧ n2 ≤ maxLen ∧ n3 ≤ maxLen ∧ i64R s.cursor
def PartX (w : World) (X : Nat → Prop) (p : PartD) (cs : List Value) : Prop :=
 ∃ A n c ls rs, cs = [.int .i64 p.kind, .string p.name, .slice A n c, .int .i64 p.dir] ++ ls ++ rs ∧ RdX w X 2 A n (spanCells p.set) ∧ n ≤ maxLen ∧ SideX w X p.left ls ∧ SideX w X p.right rs ∧ i64R p.kind ∧ i64R p.dir ∧ p.name.size ≤ maxLen
def PartsX (w : World) (X : Nat → Prop) (A : Option Addr) (n : Nat) (l : List PartD) : Prop := ListX (PartX w X) w X 16 A n l
section
variable {w w' : World} {X X' : Nat → Prop} (hk : Keeps w X w' X')
include hk
theorem ItemX.keep {a : ItemD} {cs : List Value} (h : ItemX w X a cs) : ItemX w' X' a cs := by
 obtain ⟨A, n, c, e, h1, h2⟩ := h
 exact ⟨A, n, c, e, h1.keep hk, h2⟩
theorem ItemsX.keep {A : Option Addr} {n : Nat} {l : List ItemD} (h : ItemsX w X A n l) : ItemsX w' X' A n l := ListX.keep hk (fun _ _ => ItemX.keep hk) h
theorem SideX.keep {s : SideD} {cs : List Value} (h : SideX w X s cs) : SideX w' X' s cs := by
 obtain ⟨A1, n1, c1, A2, n2, c2, A3, n3, c3, e, h1, h2, h3, h4⟩ := h
 exact ⟨A1, n1, c1, A2, n2, c2, A3, n3, c3, e, h1.keep hk, h2.keep hk, h3.keep hk, h4⟩
theorem PartX.keep {p : PartD} {cs : List Value} (h : PartX w X p cs) : PartX w' X' p cs := by
 obtain ⟨A, n, c, ls, rs, e, h1, h2, h3, h4, h5⟩ := h
 exact ⟨A, n, c, ls, rs, e, h1.keep hk, h2, h3.keep hk, h4.keep hk, h5⟩
theorem PartsX.keep {A : Option Addr} {n : Nat} {l : List PartD} (h : PartsX w X A n l) : PartsX w' X' A n l := ListX.keep hk (fun _ _ => PartX.keep hk) h
end
section
variable {α : Type} {w : World} {B sz n : Nat} {A : Option Addr}
theorem ListX.of_rd {R R' : α → List Value → Prop} {l : List α} (hB : B ≤ w.heap.size) (hR : ∀ a cs, R a cs → R' a cs) (h : RdL R w B sz A n l) : ListX R' w (· < B) sz A n l := by
 obtain ⟨css, h1, h2, h3, h4, h5⟩ := h
 exact ⟨css, h1, h2, fun i a cs ha hc => hR a cs (h3 i a cs ha hc), h4, RdX.of_rd h5 hB (fun _ h => h)⟩
theorem ItemX.of_c (hB : B ≤ w.heap.size) {a : ItemD} {cs : List Value} (h : ItemC w B a cs) : ItemX w (· < B) a cs := by
 obtain ⟨A, n, c, e, h1, h2⟩ := h
 exact ⟨A, n, c, e, RdX.of_rd h1 hB (fun _ h => h), h2⟩
theorem ItemsX.of_rd (hB : B ≤ w.heap.size) {l : List ItemD} (h : RdIt w B A n l) : ItemsX w (· < B) A n l := ListX.of_rd hB (fun _ _ => ItemX.of_c hB) h
theorem SideX.of_c (hB : B ≤ w.heap.size) {s : SideD} {cs : List Value} (h : SideC w B s cs) : SideX w (· < B) s cs := by
 obtain ⟨A1, n1, c1, A2, n2, c2, A3, n3, c3, e, h1, h2, h3, h4⟩ := h
 exact ⟨A1, n1, c1, A2, n2, c2, A3, n3, c3, e, .of_rd hB h1, .of_rd hB h2, .of_rd hB h3, h4⟩
theorem PartX.of_c (hB : B ≤ w.heap.size) {p : PartD} {cs : List Value} (h : PartC w B p cs) : PartX w (· < B) p cs := by
 obtain ⟨A, n, c, ls, rs, e, h1, h2, h3, h4, h5⟩ := h
 exact ⟨A, n, c, ls, rs, e, RdX.of_rd h1 hB (fun _ h => h), h2, .of_c hB h3, .of_c hB h4, h5⟩
theorem PartsX.of_rd (hB : B ≤ w.heap.size) {l : List PartD} (h : RdP w B A n l) : PartsX w (· < B) A n l := ListX.of_rd hB (fun _ _ => PartX.of_c hB) h
variable {X : Nat → Prop}
theorem ListX.rd {R R' : α → List Value → Prop} {l : List α} (hR : ∀ a cs, R a cs → R' a cs) (h : ListX R w X sz A n l) : RdL R' w w.heap.size sz A n l := by
 obtain ⟨css, h1, h2, h3, h4, h5⟩ := h
 exact ⟨css, h1, h2, fun i a cs ha hc => hR a cs (h3 i a cs ha hc), h4, h5.rd (fun _ _ h => h)⟩
theorem ItemX.rd {a : ItemD} {cs : List Value} (h : ItemX w X a cs) : ItemC w w.heap.size a cs := by
 obtain ⟨A, n, c, e, h1, h2⟩ := h
 exact ⟨A, n, c, e, h1.rd (fun _ _ h => h), h2⟩
theorem ItemsX.rd {l : List ItemD} (h : ItemsX w X A n l) : RdIt w w.heap.size A n l := ListX.rd (fun _ _ => ItemX.rd) h
theorem SideX.rd {s : SideD} {cs : List Value} (h : SideX w X s cs) : SideC w w.heap.size s cs := by
 obtain ⟨A1, n1, c1, A2, n2, c2, A3, n3, c3, e, h1, h2, h3, h4⟩ := h
 exact ⟨A1, n1, c1, A2, n2, c2, A3, n3, c3, e, h1.rd, h2.rd, h3.rd, h4⟩
theorem PartX.rd {p : PartD} {cs : List Value} (h : PartX w X p cs) : PartC w w.heap.size p cs := by
 obtain ⟨A, n, c, ls, rs, e, h1, h2, h3, h4, h5⟩ := h
 exact ⟨A, n, c, ls, rs, e, h1.rd (fun _ _ h => h), h2, h3.rd, h4.rd, h5⟩
theorem PartsX.rd {l : List PartD} (h : PartsX w X A n l) : RdP w w.heap.size A n l := ListX.rd (fun _ _ => PartX.rd) h
theorem ItemX.one {a : ItemD} {cs : List Value} (h : ItemX w X a cs) : cs.length = 4 ∧ ∀ u ∈ cs, u.oneCell' = true := by
 obtain ⟨A, n, c, rfl, _⟩ := h
 refine ⟨rfl, fun u hu => ?_⟩
 simp at hu
 rcases hu with rfl | rfl | rfl | rfl <;> rfl
theorem PartX.one {p : PartD} {cs : List Value} (h : PartX w X p cs) : cs.length = 16 ∧ ∀ u ∈ cs, u.oneCell' = true := by
 obtain ⟨A, n, c, ls, rs, rfl, _, _, ⟨A1, n1, c1, A2, n2, c2, A3, n3, c3, rfl, _⟩, ⟨B1, m1, d1, B2, m2, d2, B3, m3, d3, rfl, _⟩, _⟩ := h
 refine ⟨rfl, fun u hu => ?_⟩
 simp at hu
 rcases hu with rfl | rfl | rfl | rfl | rfl | rfl | rfl | rfl | rfl | rfl | rfl | rfl | rfl | rfl | rfl | rfl <;> rfl
theorem PartX.form {q : PartD} {cs : List Value} (h : PartX w X q cs) : ∃ A' n' c' L1 a1 x1 L2 a2 x2 L3 a3 x3 R1 b1 y1 R2 b2 y2 R3 b3 y3, cs = [.int .i64 q.kind, .string q.name, .slice A' n' c', .int .i64 q.dir, .bool q.left.start, .bool q.left.fin, .slice L1 a1 x1, .slice L2 a2 x2, .slice L3 a3 x3, .int .i64 q.left.cursor, .bool q.right.start, .bool q.right.fin, .slice R1 b1 y1, .slice R2 b2 y2, .slice R3 b3 y3, .int .i64 q.right.cursor] := by
 obtain ⟨A, n, c, ls, rs, rfl, _, _, ⟨A1, n1, c1, A2, n2, c2, A3, n3, c3, rfl, _⟩, ⟨B1, m1, d1, B2, m2, d2, B3, m3, d3, rfl, _⟩, _⟩ := h
 exact ⟨A, n, c, A1, n1, c1, A2, n2, c2, A3, n3, c3, B1, m1, d1, B2, m2, d2, B3, m3, d3, rfl⟩
theorem RdX.nil (sz : Nat) : RdX w X sz none 0 [] := ⟨by simp, fun h => absurd h (Nat.lt_irrefl 0)⟩
theorem ItemsX.nil : ItemsX w X none 0 [] := ⟨[], rfl, rfl, by simp, by simp, RdX.nil 4⟩
theorem zero_side : SideX w X zeroS [.bool false, .bool false, .slice none 0 0, .slice none 0 0, .slice none 0 0, .int .i64 0] :=
 ⟨none, 0, 0, none, 0, 0, none, 0, 0, rfl, ItemsX.nil, ItemsX.nil, ItemsX.nil, Nat.zero_le _, Nat.zero_le _, Nat.zero_le _, by unfold i64R zeroS; dsimp only; omega⟩
end
def RowX (B lo : Nat) (v : Value) (b : Nat) : Prop := b < B ∨ (lo ≤ b ∧ v.ownBlock ≠ some b)
theorem row_app {B lo sz n0 m : Nat} {e : TypeId} {v v' : Value} {xs ys : List Value} {w w2 : World} (hB : B ≤ lo) (ho : w.ownsRow lo e sz v n0 xs) (ha : Appended lo e sz v w m ys v' w2) : Keeps w (RowX B lo v) w2 (RowX B lo v') := by
 refine Keeps.app ha (fun b hb => ?_) (fun b hb hl => ?_)
 ·rcases hb with h | h
  ·intro e
   have := (own_lt ho e).1
   omega
  ·exact h.2
 ·rcases hb with h | h
  ·exact .inl h
  ·refine .inr ⟨h.1, ?_⟩
   rcases ha.2.2 with e | e
   ·rw [e]; exact h.2
   ·rw [e]
    intro h
    injection h with h
    omega
theorem infoItem : (Tryz.prog.info? 114).map (fun i => (i.zero, i.size, i.bytes)) = some (some (.agg #[.int .i64 0, .int .i32 0, .slice none 0 0, .string ⟨#[]⟩]), 4, 56) := by kernel_rfl
theorem infoPartZ : (Tryz.prog.info? 98).map (fun i => (i.zero, i.size, i.bytes)) = some (some (.agg #[.int .i64 0, .string ⟨#[]⟩, .slice none 0 0, .int .i64 0, .bool false, .bool false, .slice none 0 0, .slice none 0 0, .slice none 0 0, .int .i64 0, .bool false, .bool false, .slice none 0 0, .slice none 0 0, .slice none 0 0, .int .i64 0]), 16, 232) := by kernel_rfl
end Go.Proofs.YthnhbcohfoodlaaGreatDoor

namespace Go.Proofs.YthnhbcohfoodlaaGreatDoor
open Go.RowKit
set_option maxHeartbeats 3200000 in
set_option maxRecDepth 100000 in
theorem items_same (A C : Option Addr) (n m c d : Nat) (l : List ItemD) (w : World) (X X' : Nat → Prop) (hn : n ≤ maxLen) (hx : ItemsX w X A n l) (hy : ItemsX w X' C m l) :
 Calls Tryz.prog 106 #[.slice A n c, .slice C m d] w fun e w' => e = .returned (.bool true) ∧ ∃ k, w' = w.drewN k := by
 obtain rfl : n = m := by rw [← hx.len, ← hy.len]
 have hn2 : n ≤ 9223372036854775807 := by unfold maxLen at hn; omega
 have HX := Lib.hid hx
 have HY := Lib.hid hy
 have HL := Lib.hid hx.len
 clear hx hy hn
 go_enter Tryz.func106, Tryz.ntmps106
 go_wp2
 go_loopw [13] (fun i wr => ∃ k q : Nat, k ≤ n ∧ i = .int .i64 k ∧ wr = w.drewN q) (fun i _ => n - (intOf i).toNat)
 case atStart => exact ⟨0, 0, Nat.zero_le _, rfl, rfl⟩
 case round =>
  obtain ⟨k, q, hk, rfl, hwr⟩ := hrel
  by_cases hlt : k < n
  ·obtain ⟨a, hz⟩ : ∃ z, l[k]? = some z := ⟨_, List.getElem?_eq_getElem (by rw [HL.out]; exact hlt)⟩
   obtain ⟨b1, o1, cs1, rfl, _, hb1, ⟨A1, n1, e1, rfl, hr1, hm1, _, _⟩, _, g1⟩ := HX.out.at hz
   obtain ⟨b2, o2, cs2, rfl, _, hb2, ⟨A2, n2, e2, rfl, hr2, _, _, _⟩, _, g2⟩ := HY.out.at hz
   have c0 : wr.cell? ⟨b1, o1 + k * 4, none⟩ = some (.int .i64 a.kind) := by rw [hwr]; exact g1 0 _ rfl
   have c1 : wr.cell? ⟨b1, o1 + k * 4 + 1, none⟩ = some (.int .i32 a.rune) := by rw [hwr]; exact g1 1 _ rfl
   have c2 : wr.cell? ⟨b1, o1 + k * 4 + 2, none⟩ = some (.slice A1 n1 e1) := by rw [hwr]; exact g1 2 _ rfl
   have c3 : wr.cell? ⟨b1, o1 + k * 4 + 3, none⟩ = some (.string a.name) := by rw [hwr]; exact g1 3 _ rfl
   have d0 : wr.cell? ⟨b2, o2 + k * 4, none⟩ = some (.int .i64 a.kind) := by rw [hwr]; exact g2 0 _ rfl
   have d1 : wr.cell? ⟨b2, o2 + k * 4 + 1, none⟩ = some (.int .i32 a.rune) := by rw [hwr]; exact g2 1 _ rfl
   have d2 : wr.cell? ⟨b2, o2 + k * 4 + 2, none⟩ = some (.slice A2 n2 e2) := by rw [hwr]; exact g2 2 _ rfl
   have d3 : wr.cell? ⟨b2, o2 + k * 4 + 3, none⟩ = some (.string a.name) := by rw [hwr]; exact g2 3 _ rfl
   have HC := Lib.hid (fun q' => show Calls Tryz.prog 12 #[.slice A1 n1 e1, .slice A2 n2 e2] (wr.drewN q') (fun e w' => e = .returned (.bool true) ∧ ∃ k, w' = (wr.drewN q').drewN k) from by rw [hwr]; exact set_same A1 A2 n1 n2 e1 e2 a.set ((w.drewN q).drewN q') w.heap.size w.heap.size (by unfold maxLen at hm1; omega) (hr1.rd (fun _ _ h => h)) (hr2.rd (fun _ _ h => h)))
   have HW := Lib.hid hwr
   clear hz hr1 hr2 g1 g2 hwr
   go_wp2
   go_quiet ((go_at_call 12; exact Calls.quiet_of (HC.out _)))
   go_wp2
   refine ⟨⟨k + 1, q + nq, by omega, by go_num, by rw [HW.out, World.drewN_drewN]⟩, by simp [intOf]; omega⟩
  ·obtain rfl : k = n := by omega
   have HW := Lib.hid hwr
   clear hwr
   go_wp2
   go_ret
   exact ⟨rfl, q, HW.out⟩
set_option maxHeartbeats 3200000 in
set_option maxRecDepth 100000 in
theorem side_same (cs ds : List Value) (s : SideD) (w : World) (X X' : Nat → Prop) (hx : SideX w X s cs) (hy : SideX w X' s ds) :
 Calls Tryz.prog 64 #[.agg cs.toArray, .agg ds.toArray] w fun e w' => e = .returned (.bool true) ∧ Below w.heap.size w w' := by
 obtain ⟨A1, n1, c1, A2, n2, c2, A3, n3, c3, rfl, x1, x2, x3, m1, m2, m3, _⟩ := hx
 obtain ⟨B1, p1, e1, B2, p2, e2, B3, p3, e3, rfl, y1, y2, y3, _, _, _, _⟩ := hy
 have dr : ∀ {W : World} {e : Ending} {w' : World}, (e = Ending.returned (.bool true) ∧ ∃ k, w' = W.drewN k) → e = .returned (.bool true) ∧ Below W.heap.size W w' := fun ⟨he, k, hk⟩ => ⟨he, hk ▸ below_drewN (Below.refl _ _) k⟩
 have hs1 := fun (w' : World) (hb : Below w.heap.size w w') => (items_same A1 B1 n1 p1 c1 e1 s.before w' X X' m1 (x1.keep (Keeps.below hb (fun _ h _ => h))) (y1.keep (Keeps.below hb (fun _ h _ => h)))).mono (fun _ _ h => dr h)
 have hs2 := fun (w' : World) (hb : Below w.heap.size w w') => (items_same A2 B2 n2 p2 c2 e2 s.source w' X X' m2 (x2.keep (Keeps.below hb (fun _ h _ => h))) (y2.keep (Keeps.below hb (fun _ h _ => h)))).mono (fun _ _ h => dr h)
 have hs3 := fun (w' : World) (hb : Below w.heap.size w w') => (items_same A3 B3 n3 p3 c3 e3 s.after w' X X' m3 (x3.keep (Keeps.below hb (fun _ h _ => h))) (y3.keep (Keeps.below hb (fun _ h _ => h)))).mono (fun _ _ h => dr h)
 have HS1 := Lib.hid hs1
 have HS2 := Lib.hid hs2
 have HS3 := Lib.hid hs3
 generalize s.start = st at *
 generalize s.fin = fi at *
 generalize s.cursor = cu at *
 have hk0 := Blk.alloc (Blk.new w 96 #[.bool st, .bool fi, .slice A1 n1 c1, .slice A2 n2 c2, .slice A3 n3 c3, .int .i64 cu]) (.cells #[.bool st, .bool fi, .slice B1 p1 e1, .slice B2 p2 e2, .slice B3 p3 e3, .int .i64 cu] 96)
 have hj0 := Blk.new (w.alloc (.cells #[.bool st, .bool fi, .slice A1 n1 c1, .slice A2 n2 c2, .slice A3 n3 c3, .int .i64 cu] 96)) 96 #[.bool st, .bool fi, .slice B1 p1 e1, .slice B2 p2 e2, .slice B3 p3 e3, .int .i64 cu]
 rw [show (w.alloc (.cells #[.bool st, .bool fi, .slice A1 n1 c1, .slice A2 n2 c2, .slice A3 n3 c3, .int .i64 cu] 96)).heap.size = w.heap.size + 1 by simp] at hj0
 have HK0 := Lib.hid hk0
 have HJ0 := Lib.hid hj0
 have HB0 := Lib.hid (((Below.refl w.heap.size w).alloc (Nat.le_refl _) (.cells #[.bool st, .bool fi, .slice A1 n1 c1, .slice A2 n2 c2, .slice A3 n3 c3, .int .i64 cu] 96)).alloc (by simp) (.cells #[.bool st, .bool fi, .slice B1 p1 e1, .slice B2 p2 e2, .slice B3 p3 e3, .int .i64 cu] 96))
 clear hs1 hs2 hs3 x1 x2 x3 y1 y2 y3 hk0 hj0 dr
 go_enter Tryz.func64, Tryz.ntmps64
 go_wp2_with fail
 refine (HS1.out _ HB0.out).mono ?_
 rintro e w1 ⟨rfl, hb⟩
 have HB1 := Lib.hid (HB0.out.trans (hb.mono HB0.out.size))
 have HK1 := Lib.hid (Blk.below HK0.out hb HK0.out.lt)
 have HJ1 := Lib.hid (Blk.below HJ0.out hb HJ0.out.lt)
 have x1 : w1.cell? ⟨w.heap.size, 3, none⟩ = some (.slice A2 n2 c2) := HK1.out.cell 3
 have y1 : w1.cell? ⟨w.heap.size + 1, 3, none⟩ = some (.slice B2 p2 e2) := HJ1.out.cell 3
 clear hb
 go_wp2_with fail
 refine (HS2.out _ HB1.out).mono ?_
 rintro e w2 ⟨rfl, hb⟩
 have HB2 := Lib.hid (HB1.out.trans (hb.mono HB1.out.size))
 have HK2 := Lib.hid (Blk.below HK1.out hb HK1.out.lt)
 have HJ2 := Lib.hid (Blk.below HJ1.out hb HJ1.out.lt)
 have x2 : w2.cell? ⟨w.heap.size, 4, none⟩ = some (.slice A3 n3 c3) := HK2.out.cell 4
 have y2 : w2.cell? ⟨w.heap.size + 1, 4, none⟩ = some (.slice B3 p3 e3) := HJ2.out.cell 4
 clear hb
 go_wp2_with fail
 refine (HS3.out _ HB2.out).mono ?_
 rintro e w3 ⟨rfl, hb⟩
 have HB3 := Lib.hid (HB2.out.trans (hb.mono HB2.out.size))
 clear hb
 go_wp2_with fail
 go_ret
 exact ⟨rfl, HB3.out⟩
end Go.Proofs.YthnhbcohfoodlaaGreatDoor

namespace Go.Proofs.YthnhbcohfoodlaaGreatDoor
open Go.RowKit
theorem fileGo_all {l : List PartD} (h : ∀ p ∈ l, partP p = 0) : ∀ i, fileGo i l = (0, 0) := by
 induction l with
 | nil => intro i; rfl
 | cons p l ih =>
   intro i
   rw [fileGo, if_pos (h p (by simp)), ih (fun q hq => h q (by simp [hq]))]
theorem file_zero {l : List PartD} : (fileP l).1 = 0 ↔ l.length ≤ 200 ∧ ∀ p ∈ l, partP p = 0 := by
 constructor
 ·intro h
  obtain ⟨h1, _, h3⟩ := file_ok h
  exact ⟨h1, h3⟩
 ·intro ⟨h1, h2⟩
  unfold fileP
  rw [if_neg (by omega), fileGo_all h2]
end Go.Proofs.YthnhbcohfoodlaaGreatDoor
