/- Bare -/
import Derived.Test.YthnhbcohfoodlaaGreatDoorZt32
import Derived.Test.YthnhbcohfoodlaaGreatDoorZt14
namespace Go.Proofs.YthnhbcohfoodlaaGreatDoor
open Go.RowKit
section
variable {w : World} {X : Nat → Prop} {p : PartD} {A : Option Addr} {n c : Nat}
theorem part_flat {k d : Int} {nm : ByteArray} {s : Spans} (hs : RdX w X 2 A n (spanCells s)) (hn : n ≤ maxLen) (hk : i64R k) (hd : i64R d) (hm : nm.size ≤ maxLen) :
 PartX w X ⟨k, nm, s, d, zeroS, zeroS⟩ [.int .i64 k, .string nm, .slice A n c, .int .i64 d, .bool false, .bool false, .slice none 0 0, .slice none 0 0, .slice none 0 0, .int .i64 0, .bool false, .bool false, .slice none 0 0, .slice none 0 0, .slice none 0 0, .int .i64 0] :=
 ⟨A, n, c, [.bool false, .bool false, .slice none 0 0, .slice none 0 0, .slice none 0 0, .int .i64 0], [.bool false, .bool false, .slice none 0 0, .slice none 0 0, .slice none 0 0, .int .i64 0], rfl, hs, hn, zero_side, zero_side, hk, hd, hm⟩
theorem zero64 : i64R 0 := by unfold i64R; omega
theorem bareD_no (h : p.kind ≠ 2) : bareD p = ⟨p.kind, (bareD p).name, (bareD p).set, 0, zeroS, zeroS⟩ := by unfold bareD; simp [h]
theorem bareD_2 (h : p.kind = 2) : bareD p = ⟨p.kind, ⟨#[]⟩, [], p.dir, bareS p.left, bareS p.right⟩ := by unfold bareD; simp [h]
end
def BaRel (w : World) (B : Nat) (l : List PartD) (n : Nat) (m i : Value) (wr : World) : Prop :=
 ∃ (k : Nat), k ≤ n ∧ i = .int .i64 k ∧ OwnL (PartX wr (RowX B w.heap.size m)) 98 16 wr w.heap.size m ((l.take k).map bareD) ∧ Below w.heap.size w wr
def BdAt (wr : World) (P Q : Array Value) (wx : World) : Prop := Blk wx wr.heap.size 98 P ∧ Blk wx (wr.heap.size + 1) 98 Q ∧ Below wr.heap.size wr wx
theorem BdAt.put {wr wx : World} {P Q : Array Value} (h : BdAt wr P Q wx) (i : Nat) (u : Value) : BdAt wr P (Q.setIfInBounds i u) (wx.setCell ⟨wr.heap.size + 1, i, none⟩ u) :=
 ⟨blk_set_ne h.1 (by omega), h.2.1.put i u, h.2.2.setCell (p := ⟨wr.heap.size + 1, i, none⟩) (Nat.le_succ _) u⟩
theorem BdAt.below {wr wx w2 : World} {P Q : Array Value} (h : BdAt wr P Q wx) (hb : Below wx.heap.size wx w2) : BdAt wr P Q w2 :=
 ⟨Blk.below h.1 hb h.1.lt, Blk.below h.2.1 hb h.2.1.lt, h.2.2.trans (hb.mono h.2.2.size)⟩
theorem BdAt.drew {wr wx : World} {P Q : Array Value} (h : BdAt wr P Q wx) : BdAt wr P Q wx.drew := h.below (Below.refl _ _).drew
theorem bd_put13 {wr wx : World} {B : Nat} {P : Array Value} {a0 a1 a2 b3 b4 b5 b6 b7 b8 b9 b10 b11 b12 b13 b14 b15 : Value} (h : BdAt wr P #[a0, a1, a2, b3, b4, b5, b6, b7, b8, b9, b10, b11, b12, b13, b14, b15] wx) (hB : B ≤ wr.heap.size) (v3 v4 v5 v6 v7 v8 v9 v10 v11 v12 v13 v14 v15 : Value) :
 BdAt wr P #[a0, a1, a2, v3, v4, v5, v6, v7, v8, v9, v10, v11, v12, v13, v14, v15] (((((((((((((wx.setCell ⟨wr.heap.size + 1, 3, none⟩ v3).setCell ⟨wr.heap.size + 1, 4, none⟩ v4).setCell ⟨wr.heap.size + 1, 5, none⟩ v5).setCell ⟨wr.heap.size + 1, 6, none⟩ v6).setCell ⟨wr.heap.size + 1, 7, none⟩ v7).setCell ⟨wr.heap.size + 1, 8, none⟩ v8).setCell ⟨wr.heap.size + 1, 9, none⟩ v9).setCell ⟨wr.heap.size + 1, 10, none⟩ v10).setCell ⟨wr.heap.size + 1, 11, none⟩ v11).setCell ⟨wr.heap.size + 1, 12, none⟩ v12).setCell ⟨wr.heap.size + 1, 13, none⟩ v13).setCell ⟨wr.heap.size + 1, 14, none⟩ v14).setCell ⟨wr.heap.size + 1, 15, none⟩ v15) ∧ Keeps wx (Fr B (wr.heap.size + 2)) (((((((((((((wx.setCell ⟨wr.heap.size + 1, 3, none⟩ v3).setCell ⟨wr.heap.size + 1, 4, none⟩ v4).setCell ⟨wr.heap.size + 1, 5, none⟩ v5).setCell ⟨wr.heap.size + 1, 6, none⟩ v6).setCell ⟨wr.heap.size + 1, 7, none⟩ v7).setCell ⟨wr.heap.size + 1, 8, none⟩ v8).setCell ⟨wr.heap.size + 1, 9, none⟩ v9).setCell ⟨wr.heap.size + 1, 10, none⟩ v10).setCell ⟨wr.heap.size + 1, 11, none⟩ v11).setCell ⟨wr.heap.size + 1, 12, none⟩ v12).setCell ⟨wr.heap.size + 1, 13, none⟩ v13).setCell ⟨wr.heap.size + 1, 14, none⟩ v14).setCell ⟨wr.heap.size + 1, 15, none⟩ v15) (Fr B (wr.heap.size + 2)) := by
 have k3 : Keeps wx (Fr B (wr.heap.size + 2)) (wx.setCell ⟨wr.heap.size + 1, 3, none⟩ v3) (Fr B (wr.heap.size + 2)) := fr_set1 hB
 have k4 : Keeps wx (Fr B (wr.heap.size + 2)) ((wx.setCell ⟨wr.heap.size + 1, 3, none⟩ v3).setCell ⟨wr.heap.size + 1, 4, none⟩ v4) (Fr B (wr.heap.size + 2)) := k3.trans (fr_set1 hB)
 have k5 : Keeps wx (Fr B (wr.heap.size + 2)) (((wx.setCell ⟨wr.heap.size + 1, 3, none⟩ v3).setCell ⟨wr.heap.size + 1, 4, none⟩ v4).setCell ⟨wr.heap.size + 1, 5, none⟩ v5) (Fr B (wr.heap.size + 2)) := k4.trans (fr_set1 hB)
 have k6 : Keeps wx (Fr B (wr.heap.size + 2)) ((((wx.setCell ⟨wr.heap.size + 1, 3, none⟩ v3).setCell ⟨wr.heap.size + 1, 4, none⟩ v4).setCell ⟨wr.heap.size + 1, 5, none⟩ v5).setCell ⟨wr.heap.size + 1, 6, none⟩ v6) (Fr B (wr.heap.size + 2)) := k5.trans (fr_set1 hB)
 have k7 : Keeps wx (Fr B (wr.heap.size + 2)) (((((wx.setCell ⟨wr.heap.size + 1, 3, none⟩ v3).setCell ⟨wr.heap.size + 1, 4, none⟩ v4).setCell ⟨wr.heap.size + 1, 5, none⟩ v5).setCell ⟨wr.heap.size + 1, 6, none⟩ v6).setCell ⟨wr.heap.size + 1, 7, none⟩ v7) (Fr B (wr.heap.size + 2)) := k6.trans (fr_set1 hB)
 have k8 : Keeps wx (Fr B (wr.heap.size + 2)) ((((((wx.setCell ⟨wr.heap.size + 1, 3, none⟩ v3).setCell ⟨wr.heap.size + 1, 4, none⟩ v4).setCell ⟨wr.heap.size + 1, 5, none⟩ v5).setCell ⟨wr.heap.size + 1, 6, none⟩ v6).setCell ⟨wr.heap.size + 1, 7, none⟩ v7).setCell ⟨wr.heap.size + 1, 8, none⟩ v8) (Fr B (wr.heap.size + 2)) := k7.trans (fr_set1 hB)
 have k9 : Keeps wx (Fr B (wr.heap.size + 2)) (((((((wx.setCell ⟨wr.heap.size + 1, 3, none⟩ v3).setCell ⟨wr.heap.size + 1, 4, none⟩ v4).setCell ⟨wr.heap.size + 1, 5, none⟩ v5).setCell ⟨wr.heap.size + 1, 6, none⟩ v6).setCell ⟨wr.heap.size + 1, 7, none⟩ v7).setCell ⟨wr.heap.size + 1, 8, none⟩ v8).setCell ⟨wr.heap.size + 1, 9, none⟩ v9) (Fr B (wr.heap.size + 2)) := k8.trans (fr_set1 hB)
 have k10 : Keeps wx (Fr B (wr.heap.size + 2)) ((((((((wx.setCell ⟨wr.heap.size + 1, 3, none⟩ v3).setCell ⟨wr.heap.size + 1, 4, none⟩ v4).setCell ⟨wr.heap.size + 1, 5, none⟩ v5).setCell ⟨wr.heap.size + 1, 6, none⟩ v6).setCell ⟨wr.heap.size + 1, 7, none⟩ v7).setCell ⟨wr.heap.size + 1, 8, none⟩ v8).setCell ⟨wr.heap.size + 1, 9, none⟩ v9).setCell ⟨wr.heap.size + 1, 10, none⟩ v10) (Fr B (wr.heap.size + 2)) := k9.trans (fr_set1 hB)
 have k11 : Keeps wx (Fr B (wr.heap.size + 2)) (((((((((wx.setCell ⟨wr.heap.size + 1, 3, none⟩ v3).setCell ⟨wr.heap.size + 1, 4, none⟩ v4).setCell ⟨wr.heap.size + 1, 5, none⟩ v5).setCell ⟨wr.heap.size + 1, 6, none⟩ v6).setCell ⟨wr.heap.size + 1, 7, none⟩ v7).setCell ⟨wr.heap.size + 1, 8, none⟩ v8).setCell ⟨wr.heap.size + 1, 9, none⟩ v9).setCell ⟨wr.heap.size + 1, 10, none⟩ v10).setCell ⟨wr.heap.size + 1, 11, none⟩ v11) (Fr B (wr.heap.size + 2)) := k10.trans (fr_set1 hB)
 have k12 : Keeps wx (Fr B (wr.heap.size + 2)) ((((((((((wx.setCell ⟨wr.heap.size + 1, 3, none⟩ v3).setCell ⟨wr.heap.size + 1, 4, none⟩ v4).setCell ⟨wr.heap.size + 1, 5, none⟩ v5).setCell ⟨wr.heap.size + 1, 6, none⟩ v6).setCell ⟨wr.heap.size + 1, 7, none⟩ v7).setCell ⟨wr.heap.size + 1, 8, none⟩ v8).setCell ⟨wr.heap.size + 1, 9, none⟩ v9).setCell ⟨wr.heap.size + 1, 10, none⟩ v10).setCell ⟨wr.heap.size + 1, 11, none⟩ v11).setCell ⟨wr.heap.size + 1, 12, none⟩ v12) (Fr B (wr.heap.size + 2)) := k11.trans (fr_set1 hB)
 have k13 : Keeps wx (Fr B (wr.heap.size + 2)) (((((((((((wx.setCell ⟨wr.heap.size + 1, 3, none⟩ v3).setCell ⟨wr.heap.size + 1, 4, none⟩ v4).setCell ⟨wr.heap.size + 1, 5, none⟩ v5).setCell ⟨wr.heap.size + 1, 6, none⟩ v6).setCell ⟨wr.heap.size + 1, 7, none⟩ v7).setCell ⟨wr.heap.size + 1, 8, none⟩ v8).setCell ⟨wr.heap.size + 1, 9, none⟩ v9).setCell ⟨wr.heap.size + 1, 10, none⟩ v10).setCell ⟨wr.heap.size + 1, 11, none⟩ v11).setCell ⟨wr.heap.size + 1, 12, none⟩ v12).setCell ⟨wr.heap.size + 1, 13, none⟩ v13) (Fr B (wr.heap.size + 2)) := k12.trans (fr_set1 hB)
 have k14 : Keeps wx (Fr B (wr.heap.size + 2)) ((((((((((((wx.setCell ⟨wr.heap.size + 1, 3, none⟩ v3).setCell ⟨wr.heap.size + 1, 4, none⟩ v4).setCell ⟨wr.heap.size + 1, 5, none⟩ v5).setCell ⟨wr.heap.size + 1, 6, none⟩ v6).setCell ⟨wr.heap.size + 1, 7, none⟩ v7).setCell ⟨wr.heap.size + 1, 8, none⟩ v8).setCell ⟨wr.heap.size + 1, 9, none⟩ v9).setCell ⟨wr.heap.size + 1, 10, none⟩ v10).setCell ⟨wr.heap.size + 1, 11, none⟩ v11).setCell ⟨wr.heap.size + 1, 12, none⟩ v12).setCell ⟨wr.heap.size + 1, 13, none⟩ v13).setCell ⟨wr.heap.size + 1, 14, none⟩ v14) (Fr B (wr.heap.size + 2)) := k13.trans (fr_set1 hB)
 have k15 : Keeps wx (Fr B (wr.heap.size + 2)) (((((((((((((wx.setCell ⟨wr.heap.size + 1, 3, none⟩ v3).setCell ⟨wr.heap.size + 1, 4, none⟩ v4).setCell ⟨wr.heap.size + 1, 5, none⟩ v5).setCell ⟨wr.heap.size + 1, 6, none⟩ v6).setCell ⟨wr.heap.size + 1, 7, none⟩ v7).setCell ⟨wr.heap.size + 1, 8, none⟩ v8).setCell ⟨wr.heap.size + 1, 9, none⟩ v9).setCell ⟨wr.heap.size + 1, 10, none⟩ v10).setCell ⟨wr.heap.size + 1, 11, none⟩ v11).setCell ⟨wr.heap.size + 1, 12, none⟩ v12).setCell ⟨wr.heap.size + 1, 13, none⟩ v13).setCell ⟨wr.heap.size + 1, 14, none⟩ v14).setCell ⟨wr.heap.size + 1, 15, none⟩ v15) (Fr B (wr.heap.size + 2)) := k14.trans (fr_set1 hB)
 have s3 : BdAt wr P #[a0, a1, a2, v3, b4, b5, b6, b7, b8, b9, b10, b11, b12, b13, b14, b15] (wx.setCell ⟨wr.heap.size + 1, 3, none⟩ v3) := h.put 3 v3
 have s4 : BdAt wr P #[a0, a1, a2, v3, v4, b5, b6, b7, b8, b9, b10, b11, b12, b13, b14, b15] ((wx.setCell ⟨wr.heap.size + 1, 3, none⟩ v3).setCell ⟨wr.heap.size + 1, 4, none⟩ v4) := s3.put 4 v4
 have s5 : BdAt wr P #[a0, a1, a2, v3, v4, v5, b6, b7, b8, b9, b10, b11, b12, b13, b14, b15] (((wx.setCell ⟨wr.heap.size + 1, 3, none⟩ v3).setCell ⟨wr.heap.size + 1, 4, none⟩ v4).setCell ⟨wr.heap.size + 1, 5, none⟩ v5) := s4.put 5 v5
 have s6 : BdAt wr P #[a0, a1, a2, v3, v4, v5, v6, b7, b8, b9, b10, b11, b12, b13, b14, b15] ((((wx.setCell ⟨wr.heap.size + 1, 3, none⟩ v3).setCell ⟨wr.heap.size + 1, 4, none⟩ v4).setCell ⟨wr.heap.size + 1, 5, none⟩ v5).setCell ⟨wr.heap.size + 1, 6, none⟩ v6) := s5.put 6 v6
 have s7 : BdAt wr P #[a0, a1, a2, v3, v4, v5, v6, v7, b8, b9, b10, b11, b12, b13, b14, b15] (((((wx.setCell ⟨wr.heap.size + 1, 3, none⟩ v3).setCell ⟨wr.heap.size + 1, 4, none⟩ v4).setCell ⟨wr.heap.size + 1, 5, none⟩ v5).setCell ⟨wr.heap.size + 1, 6, none⟩ v6).setCell ⟨wr.heap.size + 1, 7, none⟩ v7) := s6.put 7 v7
 have s8 : BdAt wr P #[a0, a1, a2, v3, v4, v5, v6, v7, v8, b9, b10, b11, b12, b13, b14, b15] ((((((wx.setCell ⟨wr.heap.size + 1, 3, none⟩ v3).setCell ⟨wr.heap.size + 1, 4, none⟩ v4).setCell ⟨wr.heap.size + 1, 5, none⟩ v5).setCell ⟨wr.heap.size + 1, 6, none⟩ v6).setCell ⟨wr.heap.size + 1, 7, none⟩ v7).setCell ⟨wr.heap.size + 1, 8, none⟩ v8) := s7.put 8 v8
 have s9 : BdAt wr P #[a0, a1, a2, v3, v4, v5, v6, v7, v8, v9, b10, b11, b12, b13, b14, b15] (((((((wx.setCell ⟨wr.heap.size + 1, 3, none⟩ v3).setCell ⟨wr.heap.size + 1, 4, none⟩ v4).setCell ⟨wr.heap.size + 1, 5, none⟩ v5).setCell ⟨wr.heap.size + 1, 6, none⟩ v6).setCell ⟨wr.heap.size + 1, 7, none⟩ v7).setCell ⟨wr.heap.size + 1, 8, none⟩ v8).setCell ⟨wr.heap.size + 1, 9, none⟩ v9) := s8.put 9 v9
 have s10 : BdAt wr P #[a0, a1, a2, v3, v4, v5, v6, v7, v8, v9, v10, b11, b12, b13, b14, b15] ((((((((wx.setCell ⟨wr.heap.size + 1, 3, none⟩ v3).setCell ⟨wr.heap.size + 1, 4, none⟩ v4).setCell ⟨wr.heap.size + 1, 5, none⟩ v5).setCell ⟨wr.heap.size + 1, 6, none⟩ v6).setCell ⟨wr.heap.size + 1, 7, none⟩ v7).setCell ⟨wr.heap.size + 1, 8, none⟩ v8).setCell ⟨wr.heap.size + 1, 9, none⟩ v9).setCell ⟨wr.heap.size + 1, 10, none⟩ v10) := s9.put 10 v10
 have s11 : BdAt wr P #[a0, a1, a2, v3, v4, v5, v6, v7, v8, v9, v10, v11, b12, b13, b14, b15] (((((((((wx.setCell ⟨wr.heap.size + 1, 3, none⟩ v3).setCell ⟨wr.heap.size + 1, 4, none⟩ v4).setCell ⟨wr.heap.size + 1, 5, none⟩ v5).setCell ⟨wr.heap.size + 1, 6, none⟩ v6).setCell ⟨wr.heap.size + 1, 7, none⟩ v7).setCell ⟨wr.heap.size + 1, 8, none⟩ v8).setCell ⟨wr.heap.size + 1, 9, none⟩ v9).setCell ⟨wr.heap.size + 1, 10, none⟩ v10).setCell ⟨wr.heap.size + 1, 11, none⟩ v11) := s10.put 11 v11
 have s12 : BdAt wr P #[a0, a1, a2, v3, v4, v5, v6, v7, v8, v9, v10, v11, v12, b13, b14, b15] ((((((((((wx.setCell ⟨wr.heap.size + 1, 3, none⟩ v3).setCell ⟨wr.heap.size + 1, 4, none⟩ v4).setCell ⟨wr.heap.size + 1, 5, none⟩ v5).setCell ⟨wr.heap.size + 1, 6, none⟩ v6).setCell ⟨wr.heap.size + 1, 7, none⟩ v7).setCell ⟨wr.heap.size + 1, 8, none⟩ v8).setCell ⟨wr.heap.size + 1, 9, none⟩ v9).setCell ⟨wr.heap.size + 1, 10, none⟩ v10).setCell ⟨wr.heap.size + 1, 11, none⟩ v11).setCell ⟨wr.heap.size + 1, 12, none⟩ v12) := s11.put 12 v12
 have s13 : BdAt wr P #[a0, a1, a2, v3, v4, v5, v6, v7, v8, v9, v10, v11, v12, v13, b14, b15] (((((((((((wx.setCell ⟨wr.heap.size + 1, 3, none⟩ v3).setCell ⟨wr.heap.size + 1, 4, none⟩ v4).setCell ⟨wr.heap.size + 1, 5, none⟩ v5).setCell ⟨wr.heap.size + 1, 6, none⟩ v6).setCell ⟨wr.heap.size + 1, 7, none⟩ v7).setCell ⟨wr.heap.size + 1, 8, none⟩ v8).setCell ⟨wr.heap.size + 1, 9, none⟩ v9).setCell ⟨wr.heap.size + 1, 10, none⟩ v10).setCell ⟨wr.heap.size + 1, 11, none⟩ v11).setCell ⟨wr.heap.size + 1, 12, none⟩ v12).setCell ⟨wr.heap.size + 1, 13, none⟩ v13) := s12.put 13 v13
 have s14 : BdAt wr P #[a0, a1, a2, v3, v4, v5, v6, v7, v8, v9, v10, v11, v12, v13, v14, b15] ((((((((((((wx.setCell ⟨wr.heap.size + 1, 3, none⟩ v3).setCell ⟨wr.heap.size + 1, 4, none⟩ v4).setCell ⟨wr.heap.size + 1, 5, none⟩ v5).setCell ⟨wr.heap.size + 1, 6, none⟩ v6).setCell ⟨wr.heap.size + 1, 7, none⟩ v7).setCell ⟨wr.heap.size + 1, 8, none⟩ v8).setCell ⟨wr.heap.size + 1, 9, none⟩ v9).setCell ⟨wr.heap.size + 1, 10, none⟩ v10).setCell ⟨wr.heap.size + 1, 11, none⟩ v11).setCell ⟨wr.heap.size + 1, 12, none⟩ v12).setCell ⟨wr.heap.size + 1, 13, none⟩ v13).setCell ⟨wr.heap.size + 1, 14, none⟩ v14) := s13.put 14 v14
 have s15 : BdAt wr P #[a0, a1, a2, v3, v4, v5, v6, v7, v8, v9, v10, v11, v12, v13, v14, v15] (((((((((((((wx.setCell ⟨wr.heap.size + 1, 3, none⟩ v3).setCell ⟨wr.heap.size + 1, 4, none⟩ v4).setCell ⟨wr.heap.size + 1, 5, none⟩ v5).setCell ⟨wr.heap.size + 1, 6, none⟩ v6).setCell ⟨wr.heap.size + 1, 7, none⟩ v7).setCell ⟨wr.heap.size + 1, 8, none⟩ v8).setCell ⟨wr.heap.size + 1, 9, none⟩ v9).setCell ⟨wr.heap.size + 1, 10, none⟩ v10).setCell ⟨wr.heap.size + 1, 11, none⟩ v11).setCell ⟨wr.heap.size + 1, 12, none⟩ v12).setCell ⟨wr.heap.size + 1, 13, none⟩ v13).setCell ⟨wr.heap.size + 1, 14, none⟩ v14).setCell ⟨wr.heap.size + 1, 15, none⟩ v15) := s14.put 15 v15
 exact ⟨s15, k15⟩
theorem name_of (p : PartD) : (bareD p).name = if (p.kind == 1 || p.kind == 4) = true then p.name else ⟨#[]⟩ := by
 unfold bareD
 simp
theorem set_of (p : PartD) : (bareD p).set = if (p.kind == 1 || p.kind == 3) = true then p.set else [] := by
 unfold bareD
 simp
theorem cells16 {g : Nat} {t : TypeId} {c0 c1 c2 c3 c4 c5 c6 c7 c8 c9 c10 c11 c12 c13 c14 c15 : Value} {wx : World} (h : Blk wx g t #[c0, c1, c2, c3, c4, c5, c6, c7, c8, c9, c10, c11, c12, c13, c14, c15]) :
 wx.cell? ⟨g, 3, none⟩ = some c3 ∧ wx.cell? ⟨g, 4, none⟩ = some c4 ∧ wx.cell? ⟨g, 5, none⟩ = some c5 ∧ wx.cell? ⟨g, 6, none⟩ = some c6 ∧ wx.cell? ⟨g, 7, none⟩ = some c7 ∧ wx.cell? ⟨g, 8, none⟩ = some c8 ∧ wx.cell? ⟨g, 9, none⟩ = some c9 ∧ wx.cell? ⟨g, 10, none⟩ = some c10 ∧ wx.cell? ⟨g, 11, none⟩ = some c11 ∧ wx.cell? ⟨g, 12, none⟩ = some c12 ∧ wx.cell? ⟨g, 13, none⟩ = some c13 ∧ wx.cell? ⟨g, 14, none⟩ = some c14 ∧ wx.cell? ⟨g, 15, none⟩ = some c15 :=
 ⟨h.cell 3, h.cell 4, h.cell 5, h.cell 6, h.cell 7, h.cell 8, h.cell 9, h.cell 10, h.cell 11, h.cell 12, h.cell 13, h.cell 14, h.cell 15⟩
theorem kind_cases {p : PartD} (h : partP p = 0) : p.kind = 1 ∨ p.kind = 3 ∨ p.kind = 4 ∨ p.kind = 2 := by
 rcases part_kinds h with ⟨h, _⟩ | ⟨h, _⟩ | ⟨h, _⟩ | ⟨h, _⟩
 ·exact .inl h
 ·exact .inr (.inl h)
 ·exact .inr (.inr (.inl h))
 ·exact .inr (.inr (.inr h))
set_option maxRecDepth 100000 in
set_option maxHeartbeats 12800000 in
theorem ref_bare (B : Nat) (A : Option Addr) (n c : Nat) (l : List PartD) (w : World) (hB : B ≤ w.heap.size) (hl : PartsX w (· < B) A n l) (h0 : (fileP l).1 = 0) :
 Calls Tryz.prog 29 #[.slice A n c] w fun e w' => (∃ A' c', e = .returned (.slice A' n c') ∧ PartsX w' (Fr B w.heap.size) A' n (l.map bareD)) ∧ Below w.heap.size w w' := by
 obtain ⟨i0, hi, hz0, hz1, hz2⟩ := info_parts infoPartZ
 have HLEN := Lib.hid hl.len
 have HL := Lib.hid hl
 have HK := Lib.hid (file_zero.1 h0).2
 have hn200 : n ≤ 200 := by rw [← hl.len]; exact (file_zero.1 h0).1
 clear hl h0
 go_enter Tryz.func29, Tryz.ntmps29
 go_wp2_with fail
 go_loopw [3, 9] (BaRel w B l n) (fun _ i _ => n - (intOf i).toNat)
 case atStart => exact ⟨0, Nat.zero_le _, rfl, OwnL.nil _ _, Below.refl _ _⟩
 case round =>
  obtain ⟨k, hk, rfl, hown, hb⟩ := hrel
  by_cases hlt : k < n
  ·obtain ⟨p, hp⟩ : ∃ z, l[k]? = some z := ⟨_, List.getElem?_eq_getElem (by rw [HLEN.out]; exact hlt)⟩
   have hpk := kind_cases (HK.out p (List.mem_of_getElem? hp))
   have HP0 := Lib.hid (HK.out p (List.mem_of_getElem? hp))
   obtain ⟨b, off, cs, rfl, hbb, hbl, hpc, _, hfc⟩ := ListX.at HL.out hp
   obtain ⟨A', n', c', ls, rs, rfl, hset, hn', ⟨L1, a1, x1, L2, a2, x2, L3, a3, x3, rfl, l1, l2, l3, la1, la2, la3, cl⟩, ⟨R1, b1, y1, R2, b2, y2, R3, b3, y3, rfl, r1, r2, r3, ra1, ra2, ra3, cr⟩, hkd, hdr, hnm⟩ := hpc
   have d0 : wr.cell? ⟨b, off + k * 16, none⟩ = some (.int .i64 p.kind) := (hb.cell (p := ⟨b, off + k * 16, none⟩) hbl).trans (hfc 0 _ rfl)
   have d1 : wr.cell? ⟨b, off + k * 16 + 1, none⟩ = some (.string p.name) := (hb.cell (p := ⟨b, off + k * 16 + 1, none⟩) hbl).trans (hfc 1 _ rfl)
   have d2 : wr.cell? ⟨b, off + k * 16 + 2, none⟩ = some (.slice A' n' c') := (hb.cell (p := ⟨b, off + k * 16 + 2, none⟩) hbl).trans (hfc 2 _ rfl)
   have d3 : wr.cell? ⟨b, off + k * 16 + 3, none⟩ = some (.int .i64 p.dir) := (hb.cell (p := ⟨b, off + k * 16 + 3, none⟩) hbl).trans (hfc 3 _ rfl)
   have d4 : wr.cell? ⟨b, off + k * 16 + 4, none⟩ = some (.bool p.left.start) := (hb.cell (p := ⟨b, off + k * 16 + 4, none⟩) hbl).trans (hfc 4 _ rfl)
   have d5 : wr.cell? ⟨b, off + k * 16 + 5, none⟩ = some (.bool p.left.fin) := (hb.cell (p := ⟨b, off + k * 16 + 5, none⟩) hbl).trans (hfc 5 _ rfl)
   have d6 : wr.cell? ⟨b, off + k * 16 + 6, none⟩ = some (.slice L1 a1 x1) := (hb.cell (p := ⟨b, off + k * 16 + 6, none⟩) hbl).trans (hfc 6 _ rfl)
   have d7 : wr.cell? ⟨b, off + k * 16 + 7, none⟩ = some (.slice L2 a2 x2) := (hb.cell (p := ⟨b, off + k * 16 + 7, none⟩) hbl).trans (hfc 7 _ rfl)
   have d8 : wr.cell? ⟨b, off + k * 16 + 8, none⟩ = some (.slice L3 a3 x3) := (hb.cell (p := ⟨b, off + k * 16 + 8, none⟩) hbl).trans (hfc 8 _ rfl)
   have d9 : wr.cell? ⟨b, off + k * 16 + 9, none⟩ = some (.int .i64 p.left.cursor) := (hb.cell (p := ⟨b, off + k * 16 + 9, none⟩) hbl).trans (hfc 9 _ rfl)
   have d10 : wr.cell? ⟨b, off + k * 16 + 10, none⟩ = some (.bool p.right.start) := (hb.cell (p := ⟨b, off + k * 16 + 10, none⟩) hbl).trans (hfc 10 _ rfl)
   have d11 : wr.cell? ⟨b, off + k * 16 + 11, none⟩ = some (.bool p.right.fin) := (hb.cell (p := ⟨b, off + k * 16 + 11, none⟩) hbl).trans (hfc 11 _ rfl)
   have d12 : wr.cell? ⟨b, off + k * 16 + 12, none⟩ = some (.slice R1 b1 y1) := (hb.cell (p := ⟨b, off + k * 16 + 12, none⟩) hbl).trans (hfc 12 _ rfl)
   have d13 : wr.cell? ⟨b, off + k * 16 + 13, none⟩ = some (.slice R2 b2 y2) := (hb.cell (p := ⟨b, off + k * 16 + 13, none⟩) hbl).trans (hfc 13 _ rfl)
   have d14 : wr.cell? ⟨b, off + k * 16 + 14, none⟩ = some (.slice R3 b3 y3) := (hb.cell (p := ⟨b, off + k * 16 + 14, none⟩) hbl).trans (hfc 14 _ rfl)
   have d15 : wr.cell? ⟨b, off + k * 16 + 15, none⟩ = some (.int .i64 p.right.cursor) := (hb.cell (p := ⟨b, off + k * 16 + 15, none⟩) hbl).trans (hfc 15 _ rfl)
   have hml : ((l.take k).map bareD).length = k := by rw [List.length_map, List.length_take, HLEN.out]; omega
   have HOWN := Lib.hid hown
   have HB := Lib.hid hb
   have HTK := Lib.hid (show (l.take (k + 1)).map bareD = (l.take k).map bareD ++ [bareD p] by rw [take_snoc hp, List.map_append]; rfl)
   have HPK := Lib.hid hpk
   have HI := Lib.hid (And.intro hset (And.intro hkd (And.intro hdr (And.intro cl cr))))
   have HLS := Lib.hid (And.intro l1 (And.intro l2 (And.intro l3 (And.intro r1 (And.intro r2 r3)))))
   have hx := two_new wr 98 98 #[.int .i64 p.kind, .string p.name, .slice A' n' c', .int .i64 p.dir, .bool p.left.start, .bool p.left.fin, .slice L1 a1 x1, .slice L2 a2 x2, .slice L3 a3 x3, .int .i64 p.left.cursor, .bool p.right.start, .bool p.right.fin, .slice R1 b1 y1, .slice R2 b2 y2, .slice R3 b3 y3, .int .i64 p.right.cursor] #[.int .i64 p.kind, .string ⟨#[]⟩, .slice none 0 0, .int .i64 0, .bool false, .bool false, .slice none 0 0, .slice none 0 0, .slice none 0 0, .int .i64 0, .bool false, .bool false, .slice none 0 0, .slice none 0 0, .slice none 0 0, .int .i64 0]
   have HX := Lib.hid (show BdAt wr #[.int .i64 p.kind, .string p.name, .slice A' n' c', .int .i64 p.dir, .bool p.left.start, .bool p.left.fin, .slice L1 a1 x1, .slice L2 a2 x2, .slice L3 a3 x3, .int .i64 p.left.cursor, .bool p.right.start, .bool p.right.fin, .slice R1 b1 y1, .slice R2 b2 y2, .slice R3 b3 y3, .int .i64 p.right.cursor] #[.int .i64 p.kind, .string ⟨#[]⟩, .slice none 0 0, .int .i64 0, .bool false, .bool false, .slice none 0 0, .slice none 0 0, .slice none 0 0, .int .i64 0, .bool false, .bool false, .slice none 0 0, .slice none 0 0, .slice none 0 0, .int .i64 0] _ from ⟨hx.1, hx.2.1, hx.2.2.1⟩)
   clear hfc hpk hown hb hp hset hkd hdr cl cr l1 l2 l3 r1 r2 r3 la1 la2 la3 ra1 ra2 ra3 hx
   generalize (l.take k).map bareD = M at *
   go_upto_region 6 with fail
   clear d0 d1 d2 d3 d4 d5 d6 d7 d8 d9 d10 d11 d12 d13 d14 d15
   have hx := HX.out
   clear HX
   generalize ((wr.alloc (.cells #[.int .i64 p.kind, .string p.name, .slice A' n' c', .int .i64 p.dir, .bool p.left.start, .bool p.left.fin, .slice L1 a1 x1, .slice L2 a2 x2, .slice L3 a3 x3, .int .i64 p.left.cursor, .bool p.right.start, .bool p.right.fin, .slice R1 b1 y1, .slice R2 b2 y2, .slice R3 b3 y3, .int .i64 p.right.cursor] 98)).alloc (.cells #[.int .i64 p.kind, .string ⟨#[]⟩, .slice none 0 0, .int .i64 0, .bool false, .bool false, .slice none 0 0, .slice none 0 0, .slice none 0 0, .int .i64 0, .bool false, .bool false, .slice none 0 0, .slice none 0 0, .slice none 0 0, .int .i64 0] 98)) = W2 at *
   have e0 : W2.cell? ⟨wr.heap.size, 0, none⟩ = some (.int .i64 p.kind) := hx.1.cell 0
   have HX := Lib.hid hx
   clear hx
   go_cut [23] (fun s23 wx => s23 = .bool (p.kind == 1 || p.kind == 4) ∧ wx = W2)
   case first =>
    rcases HPK.out with h | h | h | h
    ·have q1 : (p.kind == 1) = true := by rw [h]; rfl
     have q3 : (p.kind == 3) = false := by rw [h]; rfl
     have q4 : (p.kind == 4) = false := by rw [h]; rfl
     clear h
     go_wp2_with fail
     go_meet
     exact ⟨by simp [q1, q4], rfl⟩
    ·have q1 : (p.kind == 1) = false := by rw [h]; rfl
     have q3 : (p.kind == 3) = true := by rw [h]; rfl
     have q4 : (p.kind == 4) = false := by rw [h]; rfl
     clear h
     go_wp2_with fail
     go_meet
     exact ⟨by simp [q1, q4], rfl⟩
    ·have q1 : (p.kind == 1) = false := by rw [h]; rfl
     have q3 : (p.kind == 3) = false := by rw [h]; rfl
     have q4 : (p.kind == 4) = true := by rw [h]; rfl
     clear h
     go_wp2_with fail
     go_meet
     exact ⟨by simp [q1, q4], rfl⟩
    ·have q1 : (p.kind == 1) = false := by rw [h]; rfl
     have q3 : (p.kind == 3) = false := by rw [h]; rfl
     have q4 : (p.kind == 4) = false := by rw [h]; rfl
     clear h
     go_wp2_with fail
     go_meet
     exact ⟨by simp [q1, q4], rfl⟩
   case rest =>
   obtain ⟨rfl, rfl⟩ := hcut
   have HNM := Lib.hid (name_of p)
   have e1 : wc.cell? ⟨wr.heap.size, 1, none⟩ = some (.string p.name) := HX.out.1.cell 1
   have f1 := HX.out.2.1.frozen 1
   have u1 : wc.cell? ⟨wr.heap.size + 1, 1, none⟩ = some (.string ⟨#[]⟩) := HX.out.2.1.cell 1
   have hl2 := HX.out.2.1.lt
   go_upto_if 23 with fail
   go_cut [] (fun wx => BdAt wr #[.int .i64 p.kind, .string p.name, .slice A' n' c', .int .i64 p.dir, .bool p.left.start, .bool p.left.fin, .slice L1 a1 x1, .slice L2 a2 x2, .slice L3 a3 x3, .int .i64 p.left.cursor, .bool p.right.start, .bool p.right.fin, .slice R1 b1 y1, .slice R2 b2 y2, .slice R3 b3 y3, .int .i64 p.right.cursor] #[.int .i64 p.kind, .string (bareD p).name, .slice none 0 0, .int .i64 0, .bool false, .bool false, .slice none 0 0, .slice none 0 0, .slice none 0 0, .int .i64 0, .bool false, .bool false, .slice none 0 0, .slice none 0 0, .slice none 0 0, .int .i64 0] wx)
   case first =>
    cases hk1 : (p.kind == 1 || p.kind == 4)
    ·have HN1 := Lib.hid (show (bareD p).name = ⟨#[]⟩ by rw [HNM.out, hk1]; rfl)
     clear hk1
     go_wp2_with fail
     go_meet
     rw [HN1.out]
     exact HX.out
    ·have HN1 := Lib.hid (show (bareD p).name = p.name by rw [HNM.out, hk1]; rfl)
     clear hk1
     go_wp2_with fail
     go_meet
     rw [HN1.out]
     exact HX.out.put 1 (.string p.name)
   case rest =>
   clear HX e0 e1 f1 u1 hl2
   have hx := hcut
   clear hcut
   clear HNM
   generalize hnmq : (bareD p).name = nm at *
   have HNQ := Lib.hid hnmq
   have HX := Lib.hid hx
   have e0 : wc.cell? ⟨wr.heap.size, 0, none⟩ = some (.int .i64 p.kind) := hx.1.cell 0
   clear hx hnmq
   go_upto_region 8 with fail
   go_cut [34] (fun s34 wx => s34 = .bool (p.kind == 1 || p.kind == 3) ∧ wx = wc)
   case first =>
    rcases HPK.out with h | h | h | h
    ·have q1 : (p.kind == 1) = true := by rw [h]; rfl
     have q3 : (p.kind == 3) = false := by rw [h]; rfl
     have q4 : (p.kind == 4) = false := by rw [h]; rfl
     clear h
     go_wp2_with fail
     go_meet
     exact ⟨by simp [q1, q3], rfl⟩
    ·have q1 : (p.kind == 1) = false := by rw [h]; rfl
     have q3 : (p.kind == 3) = true := by rw [h]; rfl
     have q4 : (p.kind == 4) = false := by rw [h]; rfl
     clear h
     go_wp2_with fail
     go_meet
     exact ⟨by simp [q1, q3], rfl⟩
    ·have q1 : (p.kind == 1) = false := by rw [h]; rfl
     have q3 : (p.kind == 3) = false := by rw [h]; rfl
     have q4 : (p.kind == 4) = true := by rw [h]; rfl
     clear h
     go_wp2_with fail
     go_meet
     exact ⟨by simp [q1, q3], rfl⟩
    ·have q1 : (p.kind == 1) = false := by rw [h]; rfl
     have q3 : (p.kind == 3) = false := by rw [h]; rfl
     have q4 : (p.kind == 4) = false := by rw [h]; rfl
     clear h
     go_wp2_with fail
     go_meet
     exact ⟨by simp [q1, q3], rfl⟩
   case rest =>
   obtain ⟨rfl, rfl⟩ := hcut
   have HST := Lib.hid (set_of p)
   have e2 : wc.cell? ⟨wr.heap.size, 2, none⟩ = some (.slice A' n' c') := HX.out.1.cell 2
   have f2 := HX.out.2.1.frozen 2
   have u2 : wc.cell? ⟨wr.heap.size + 1, 2, none⟩ = some (.slice none 0 0) := HX.out.2.1.cell 2
   have hl2 := HX.out.2.1.lt
   go_upto_if 34 with fail
   go_cut [] (fun wx => ∃ A9 n9 c9, BdAt wr #[.int .i64 p.kind, .string p.name, .slice A' n' c', .int .i64 p.dir, .bool p.left.start, .bool p.left.fin, .slice L1 a1 x1, .slice L2 a2 x2, .slice L3 a3 x3, .int .i64 p.left.cursor, .bool p.right.start, .bool p.right.fin, .slice R1 b1 y1, .slice R2 b2 y2, .slice R3 b3 y3, .int .i64 p.right.cursor] #[.int .i64 p.kind, .string nm, .slice A9 n9 c9, .int .i64 0, .bool false, .bool false, .slice none 0 0, .slice none 0 0, .slice none 0 0, .int .i64 0, .bool false, .bool false, .slice none 0 0, .slice none 0 0, .slice none 0 0, .int .i64 0] wx ∧ RdX w (· < B) 2 A9 n9 (spanCells (bareD p).set) ∧ n9 ≤ maxLen)
   case first =>
    cases hk1 : (p.kind == 1 || p.kind == 3)
    ·have HN1 := Lib.hid (show (bareD p).set = [] by rw [HST.out, hk1]; rfl)
     clear hk1
     go_wp2_with fail
     go_meet
     exact ⟨none, 0, 0, HX.out, by rw [HN1.out]; exact RdX.nil 2, Nat.zero_le _⟩
    ·have HN1 := Lib.hid (show (bareD p).set = p.set by rw [HST.out, hk1]; rfl)
     clear hk1
     go_wp2_with fail
     go_meet
     exact ⟨A', n', c', HX.out.put 2 (.slice A' n' c'), by rw [HN1.out]; exact HI.out.1, hn'⟩
   case rest =>
   obtain ⟨A9, n9, c9, hx, hset, hn9⟩ := hcut
   clear HX e0 e2 f2 u2 hl2
   have HX := Lib.hid hx
   have HSET := Lib.hid hset
   have e0 : wc.cell? ⟨wr.heap.size, 0, none⟩ = some (.int .i64 p.kind) := hx.1.cell 0
   clear hx hset
   have hn9' := hn9
   go_upto_if 40 with fail
   go_cut [] (fun wx => ∃ cs : List Value, PartX wx (RowX B w.heap.size u3) (bareD p) cs ∧ BdAt wr #[.int .i64 p.kind, .string p.name, .slice A' n' c', .int .i64 p.dir, .bool p.left.start, .bool p.left.fin, .slice L1 a1 x1, .slice L2 a2 x2, .slice L3 a3 x3, .int .i64 p.left.cursor, .bool p.right.start, .bool p.right.fin, .slice R1 b1 y1, .slice R2 b2 y2, .slice R3 b3 y3, .int .i64 p.right.cursor] cs.toArray wx)
   case first =>
    by_cases hk2 : p.kind = 2
    ·have HLK := Lib.hid (part_kinds HP0.out)
     have h2 : p.kind = 2 := hk2
     have hrk : RuleOk p := by
      rcases HLK.out with ⟨h, _⟩ | ⟨h, _⟩ | ⟨h, _⟩ | ⟨_, h⟩
      ·omega
      ·omega
      ·omega
      ·exact h
     obtain ⟨_, ⟨ka1, ka2, ka3⟩, ⟨kb1, kb2, kb3⟩⟩ := hrk
     obtain ⟨l1, l2, l3, r1, r2, r3⟩ := HLS.out
     obtain ⟨_, hkd, hdr, cl, cr⟩ := HI.out
     have hwb := fun (w' : World) (hb : Below wr.heap.size wr w') => HB.out.trans (hb.mono HB.out.size)
     have kw := fun (w' : World) (hb : Below wr.heap.size wr w') => (Keeps.below (X := (· < B)) (X' := (· < B)) (hwb w' hb) (fun _ h _ => h))
     have hbw := HB.out.size
     have HSL := Lib.hid (fun (w' : World) (hb : Below wr.heap.size wr w') => bare_side B p.left L1 L2 L3 a1 a2 a3 x1 x2 x3 w' (by have := hb.size; omega) (l1.keep (kw w' hb)) (l2.keep (kw w' hb)) (l3.keep (kw w' hb)) ka1 ka2 ka3 cl)
     have HSR := Lib.hid (fun (w' : World) (hb : Below wr.heap.size wr w') => bare_side B p.right R1 R2 R3 b1 b2 b3 y1 y2 y3 w' (by have := hb.size; omega) (r1.keep (kw w' hb)) (r2.keep (kw w' hb)) (r3.keep (kw w' hb)) kb1 kb2 kb3 cr)
     have HQ := Lib.hid (bareD_2 h2)
     have HDR := Lib.hid (And.intro hkd hdr)
     have hnq : nm = ⟨#[]⟩ := by rw [← HNQ.out, HQ.out]
     have hsq : (bareD p).set = [] := by rw [HQ.out]
     have HNE := Lib.hid hnq
     have HSE := Lib.hid hsq
     have q2 : (p.kind == 2) = true := by rw [h2]; rfl
     clear h2 hk2 ka1 ka2 ka3 kb1 kb2 kb3 l1 l2 l3 r1 r2 r3 hkd hdr cl cr hwb kw hnq hsq
     go_upto_region 11 with fail
     refine wp_region_held_drew (S := (fun w' => w'.cell? ⟨wr.heap.size, 3, none⟩ = some (.int .i64 p.dir) ∧ w'.cell? ⟨wr.heap.size, 4, none⟩ = some (.bool p.left.start) ∧ w'.cell? ⟨wr.heap.size, 5, none⟩ = some (.bool p.left.fin) ∧ w'.cell? ⟨wr.heap.size, 6, none⟩ = some (.slice L1 a1 x1) ∧ w'.cell? ⟨wr.heap.size, 7, none⟩ = some (.slice L2 a2 x2) ∧ w'.cell? ⟨wr.heap.size, 8, none⟩ = some (.slice L3 a3 x3) ∧ w'.cell? ⟨wr.heap.size, 9, none⟩ = some (.int .i64 p.left.cursor) ∧ w'.cell? ⟨wr.heap.size, 10, none⟩ = some (.bool p.right.start) ∧ w'.cell? ⟨wr.heap.size, 11, none⟩ = some (.bool p.right.fin) ∧ w'.cell? ⟨wr.heap.size, 12, none⟩ = some (.slice R1 b1 y1) ∧ w'.cell? ⟨wr.heap.size, 13, none⟩ = some (.slice R2 b2 y2) ∧ w'.cell? ⟨wr.heap.size, 14, none⟩ = some (.slice R3 b3 y3) ∧ w'.cell? ⟨wr.heap.size, 15, none⟩ = some (.int .i64 p.right.cursor))) (by kernel_rfl) (cells16 HX.out.drew.1) (fun hHeld => ?_)
     try simp only [Act.put]
     refine wpAnyH_take (i := 0) (v := ?_) rfl (by kernel_rfl) (by kernel_rfl) (by kernel_rfl) (fun _ _ _ h => h) (Or.inl ⟨by rfl, ?_⟩) (by assumption) ?_
     rotate_left 1
     ·intro w hSw
      (try dsimp only at hSw)
      go_simp
      try with_reducible rfl
     try simp only [Act.put]
     refine wpAnyH_take (i := 1) (v := ?_) rfl (by kernel_rfl) (by kernel_rfl) (by kernel_rfl) (fun _ _ _ h => h) (Or.inl ⟨by rfl, ?_⟩) (by assumption) ?_
     rotate_left 1
     ·intro w hSw
      (try dsimp only at hSw)
      go_simp
      try with_reducible rfl
     try simp only [Act.put]
     refine wpAnyH_take (i := 2) (v := ?_) rfl (by kernel_rfl) (by kernel_rfl) (by kernel_rfl) (fun _ _ _ h => h) (Or.inl ⟨by rfl, ?_⟩) (by assumption) ?_
     rotate_left 1
     ·intro w hSw
      (try dsimp only at hSw)
      go_simp
      try with_reducible rfl
     try simp only [Act.put]
     refine wpAnyH_take (i := 3) (v := ?_) rfl (by kernel_rfl) (by kernel_rfl) (by kernel_rfl) (fun _ _ _ h => h) (Or.inl ⟨by rfl, ?_⟩) (by assumption) ?_
     rotate_left 1
     ·intro w hSw
      (try dsimp only at hSw)
      go_simp
      try with_reducible rfl
     try simp only [Act.put]
     refine wpAnyH_take (i := 5) (v := ?_) rfl (by kernel_rfl) (by kernel_rfl) (by kernel_rfl) (fun _ _ _ h => h) (Or.inl ⟨by rfl, ?_⟩) (by assumption) ?_
     rotate_left 1
     ·intro w hSw
      (try dsimp only at hSw)
      go_simp
      try with_reducible rfl
     try simp only [Act.put]
     refine wpAnyH_take (i := 6) (v := ?_) rfl (by kernel_rfl) (by kernel_rfl) (by kernel_rfl) (fun _ _ _ h => h) (Or.inl ⟨by rfl, ?_⟩) (by assumption) ?_
     rotate_left 1
     ·intro w hSw
      (try dsimp only at hSw)
      go_simp
      try with_reducible rfl
     try simp only [Act.put]
     refine wpAnyH_take (i := 8) (v := ?_) rfl (by kernel_rfl) (by kernel_rfl) (by kernel_rfl) (fun _ _ _ h => h) (Or.inl ⟨by rfl, ?_⟩) (by assumption) ?_
     rotate_left 1
     ·intro w hSw
      (try dsimp only at hSw)
      go_simp
      try with_reducible rfl
     try simp only [Act.put]
     refine wpAnyH_ready (rs := [4]) (by kernel_rfl) (by simp) ?_
     refine AllReadyH.cons rfl (fun K hK => ?_) AllReadyH.nil
     go_simp
     go_at_call 69
     refine (HSL.out _ HX.out.2.2.drew).mono ?_
     rintro e w3 ⟨⟨cs, rfl, hs3⟩, hb3⟩
     obtain ⟨E1, g1, z1, E2, g2, z2, E3, g3, z3, rfl, hs3'⟩ := id hs3
     have HX3 := Lib.hid (HX.out.drew.below hb3)
     have HB3 := Lib.hid hb3
     have HS3 := Lib.hid hs3
     clear hs3 hs3' hb3
     dsimp only
     refine hK.out _ _ ?_ (fun hHeld => ?_)
     ·exact cells16 HX3.out.1
     clear hK K
     refine wpAnyH_ready (rs := [7]) (by kernel_rfl) (by simp) ?_
     refine AllReadyH.cons rfl (fun K hK => ?_) AllReadyH.nil
     go_simp
     go_at_call 69
     refine (HSR.out _ HX3.out.2.2).mono ?_
     rintro e w4 ⟨⟨cs, rfl, hs4⟩, hb4⟩
     obtain ⟨F1, h1, t1, F2, h2, t2, F3, h3, t3, rfl, hs4'⟩ := id hs4
     have hx4 := HX3.out.below hb4
     have HX4 := Lib.hid hx4
     have HB4 := Lib.hid hb4
     have HS4 := Lib.hid hs4
     have fz3 := hx4.2.1.frozen 3
     have v3 : w4.cell? ⟨wr.heap.size + 1, 3, none⟩ = some (.int .i64 0) := hx4.2.1.cell 3
     have fz4 := hx4.2.1.frozen 4
     have v4 : w4.cell? ⟨wr.heap.size + 1, 4, none⟩ = some (.bool false) := hx4.2.1.cell 4
     have fz5 := hx4.2.1.frozen 5
     have v5 : w4.cell? ⟨wr.heap.size + 1, 5, none⟩ = some (.bool false) := hx4.2.1.cell 5
     have fz6 := hx4.2.1.frozen 6
     have v6 : w4.cell? ⟨wr.heap.size + 1, 6, none⟩ = some (.slice none 0 0) := hx4.2.1.cell 6
     have fz7 := hx4.2.1.frozen 7
     have v7 : w4.cell? ⟨wr.heap.size + 1, 7, none⟩ = some (.slice none 0 0) := hx4.2.1.cell 7
     have fz8 := hx4.2.1.frozen 8
     have v8 : w4.cell? ⟨wr.heap.size + 1, 8, none⟩ = some (.slice none 0 0) := hx4.2.1.cell 8
     have fz9 := hx4.2.1.frozen 9
     have v9 : w4.cell? ⟨wr.heap.size + 1, 9, none⟩ = some (.int .i64 0) := hx4.2.1.cell 9
     have fz10 := hx4.2.1.frozen 10
     have v10 : w4.cell? ⟨wr.heap.size + 1, 10, none⟩ = some (.bool false) := hx4.2.1.cell 10
     have fz11 := hx4.2.1.frozen 11
     have v11 : w4.cell? ⟨wr.heap.size + 1, 11, none⟩ = some (.bool false) := hx4.2.1.cell 11
     have fz12 := hx4.2.1.frozen 12
     have v12 : w4.cell? ⟨wr.heap.size + 1, 12, none⟩ = some (.slice none 0 0) := hx4.2.1.cell 12
     have fz13 := hx4.2.1.frozen 13
     have v13 : w4.cell? ⟨wr.heap.size + 1, 13, none⟩ = some (.slice none 0 0) := hx4.2.1.cell 13
     have fz14 := hx4.2.1.frozen 14
     have v14 : w4.cell? ⟨wr.heap.size + 1, 14, none⟩ = some (.slice none 0 0) := hx4.2.1.cell 14
     have fz15 := hx4.2.1.frozen 15
     have v15 : w4.cell? ⟨wr.heap.size + 1, 15, none⟩ = some (.int .i64 0) := hx4.2.1.cell 15
     have hl4 := hx4.2.1.lt
     clear hs4 hs4' hb4 hx4
     dsimp only
     refine hK.out _ _ ?_ (fun hHeld => ?_)
     ·exact cells16 HX4.out.1
     clear hK K
     refine wpAnyH_ready (rs := [9]) (by kernel_rfl) (by simp) ?_
     refine AllReadyH.cons rfl (fun K hK => ?_) AllReadyH.nil
     go_simp
     refine hK.out _ _ ?_ (fun hHeld => ?_)
     ·exact cells16 (HX4.out.put 3 (.int .i64 p.dir)).1
     clear hK K
     refine wpAnyH_take (i := 10) (v := ?_) rfl (by kernel_rfl) (by kernel_rfl) (by kernel_rfl) (fun _ _ _ h => h) (Or.inl ⟨by rfl, ?_⟩) (by assumption) ?_
     rotate_left 1
     ·intro w hSw
      (try dsimp only at hSw)
      go_simp
      try with_reducible rfl
     try simp only [Act.put]
     refine wpAnyH_ready (rs := [11]) (by kernel_rfl) (by simp) ?_
     refine AllReadyH.cons rfl (fun K hK => ?_) AllReadyH.nil
     go_simp
     refine hK.out _ _ ?_ (fun hHeld => ?_)
     ·exact cells16 (((((((HX4.out.put 3 (.int .i64 p.dir)).put 4 (.bool (bareS p.left).start)).put 5 (.bool (bareS p.left).fin)).put 6 (.slice E1 g1 z1)).put 7 (.slice E2 g2 z2)).put 8 (.slice E3 g3 z3)).put 9 (.int .i64 (bareS p.left).cursor)).1
     clear hK K
     refine wpAnyH_take (i := 12) (v := ?_) rfl (by kernel_rfl) (by kernel_rfl) (by kernel_rfl) (fun _ _ _ h => h) (Or.inl ⟨by rfl, ?_⟩) (by assumption) ?_
     rotate_left 1
     ·intro w hSw
      (try dsimp only at hSw)
      go_simp
      try with_reducible rfl
     try simp only [Act.put]
     refine wpAnyH_ready (rs := [13]) (by kernel_rfl) (by simp) ?_
     refine AllReadyH.cons rfl (fun K hK => ?_) AllReadyH.nil
     go_simp
     refine hK.out _ _ ?_ (fun hHeld => ?_)
     ·exact cells16 (((((((((((((HX4.out.put 3 (.int .i64 p.dir)).put 4 (.bool (bareS p.left).start)).put 5 (.bool (bareS p.left).fin)).put 6 (.slice E1 g1 z1)).put 7 (.slice E2 g2 z2)).put 8 (.slice E3 g3 z3)).put 9 (.int .i64 (bareS p.left).cursor)).put 10 (.bool (bareS p.right).start)).put 11 (.bool (bareS p.right).fin)).put 12 (.slice F1 h1 t1)).put 13 (.slice F2 h2 t2)).put 14 (.slice F3 h3 t3)).put 15 (.int .i64 (bareS p.right).cursor)).1
     clear hK K
     refine wpAnyH_done (by kernel_rfl) ?_ _
     clear fz3 v3 fz4 v4 fz5 v5 fz6 v6 fz7 v7 fz8 v8 fz9 v9 fz10 v10 fz11 v11 fz12 v12 fz13 v13 fz14 v14 fz15 v15 hHeld
     have hbw0 : B ≤ wr.heap.size := Nat.le_trans hB HB.out.size
     obtain ⟨hx5, hkk⟩ := bd_put13 (B := B) HX4.out hbw0 (.int .i64 p.dir) (.bool (bareS p.left).start) (.bool (bareS p.left).fin) (.slice E1 g1 z1) (.slice E2 g2 z2) (.slice E3 g3 z3) (.int .i64 (bareS p.left).cursor) (.bool (bareS p.right).start) (.bool (bareS p.right).fin) (.slice F1 h1 t1) (.slice F2 h2 t2) (.slice F3 h3 t3) (.int .i64 (bareS p.right).cursor)
     generalize (((((((((((((w4.setCell ⟨wr.heap.size + 1, 3, none⟩ (.int .i64 p.dir)).setCell ⟨wr.heap.size + 1, 4, none⟩ (.bool (bareS p.left).start)).setCell ⟨wr.heap.size + 1, 5, none⟩ (.bool (bareS p.left).fin)).setCell ⟨wr.heap.size + 1, 6, none⟩ (.slice E1 g1 z1)).setCell ⟨wr.heap.size + 1, 7, none⟩ (.slice E2 g2 z2)).setCell ⟨wr.heap.size + 1, 8, none⟩ (.slice E3 g3 z3)).setCell ⟨wr.heap.size + 1, 9, none⟩ (.int .i64 (bareS p.left).cursor)).setCell ⟨wr.heap.size + 1, 10, none⟩ (.bool (bareS p.right).start)).setCell ⟨wr.heap.size + 1, 11, none⟩ (.bool (bareS p.right).fin)).setCell ⟨wr.heap.size + 1, 12, none⟩ (.slice F1 h1 t1)).setCell ⟨wr.heap.size + 1, 13, none⟩ (.slice F2 h2 t2)).setCell ⟨wr.heap.size + 1, 14, none⟩ (.slice F3 h3 t3)).setCell ⟨wr.heap.size + 1, 15, none⟩ (.int .i64 (bareS p.right).cursor)) = W5 at *
     have hz3 := HB3.out.size
     have hz4 := HB4.out.size
     have hzx := HX.out.2.1.lt
     have hzd : wc.heap.size ≤ wc.drew.heap.size := Nat.le_refl _
     have hno : ∀ b, wr.heap.size ≤ b → u3.ownBlock ≠ some b := fun b hb e => by
      obtain ⟨_, _, _, _, h4⟩ := HOWN.out
      have := (own_lt h4 e).2
      omega
     have hbw := HB.out.size
     have hz4' := HX4.out.2.2.size
     have hset := HSET.out
     rw [HSE.out] at hset
     have hset4 := hset.keep (Keeps.below (X' := fun b => b < B) (HB.out.trans (HX4.out.2.2.mono HB.out.size)) (fun _ h _ => h))
     have hq3 : Keeps w3 (Fr B wc.drew.heap.size) w4 (Fr B (wr.heap.size + 2)) := Keeps.below HB4.out (fun b hb _ => hb.imp id (fun h => by omega))
     have hsl := HS3.out.keep hq3
     have hsr := HS4.out.keep (Keeps.refl (X' := Fr B (wr.heap.size + 2)) (fun b hb => hb.imp id (fun h => by omega)))
     have hst := hset4.keep (Keeps.refl (X' := Fr B (wr.heap.size + 2)) (fun b hb => .inl hb))
     have hpc : PartX W5 (RowX B w.heap.size u3) (bareD p) [.int .i64 p.kind, .string nm, .slice A9 n9 c9, .int .i64 p.dir, .bool (bareS p.left).start, .bool (bareS p.left).fin, .slice E1 g1 z1, .slice E2 g2 z2, .slice E3 g3 z3, .int .i64 (bareS p.left).cursor, .bool (bareS p.right).start, .bool (bareS p.right).fin, .slice F1 h1 t1, .slice F2 h2 t2, .slice F3 h3 t3, .int .i64 (bareS p.right).cursor] := by
      have hrr : Keeps W5 (Fr B (wr.heap.size + 2)) W5 (RowX B w.heap.size u3) := Keeps.refl (fun b hb => hb.imp id (fun h => ⟨by omega, hno b (by omega)⟩))
      rw [HQ.out]
      rw [HNE.out]
      exact ⟨A9, n9, c9, [.bool (bareS p.left).start, .bool (bareS p.left).fin, .slice E1 g1 z1, .slice E2 g2 z2, .slice E3 g3 z3, .int .i64 (bareS p.left).cursor], [.bool (bareS p.right).start, .bool (bareS p.right).fin, .slice F1 h1 t1, .slice F2 h2 t2, .slice F3 h3 t3, .int .i64 (bareS p.right).cursor], rfl, (hst.keep hkk).keep hrr, hn9, (hsl.keep hkk).keep hrr, (hsr.keep hkk).keep hrr, HDR.out.1, HDR.out.2, Nat.zero_le _⟩
     have HPC := Lib.hid hpc
     have HX5 := Lib.hid hx5
     clear hx5 hpc hkk hst hsr hsl hq3 hset4 hset
     go_wp2_with fail
     go_meet
     exact ⟨_, HPC.out, HX5.out⟩
    ·have q2 : (p.kind == 2) = false := by simpa using hk2
     have hkb : Keeps w (· < B) wc (RowX B w.heap.size u3) := Keeps.below (HB.out.trans (HX.out.2.2.mono HB.out.size)) (fun _ h _ => .inl h)
     have hfl : bareD p = ⟨p.kind, nm, (bareD p).set, 0, zeroS, zeroS⟩ := by rw [← HNQ.out]; exact bareD_no hk2
     have hnq : nm.size ≤ maxLen := by
      rw [← HNQ.out, name_of]
      cases (p.kind == 1 || p.kind == 4)
      ·exact Nat.zero_le _
      ·exact hnm
     have HPC := Lib.hid (show PartX wc (RowX B w.heap.size u3) (bareD p) [.int .i64 p.kind, .string nm, .slice A9 n9 c9, .int .i64 0, .bool false, .bool false, .slice none 0 0, .slice none 0 0, .slice none 0 0, .int .i64 0, .bool false, .bool false, .slice none 0 0, .slice none 0 0, .slice none 0 0, .int .i64 0] by rw [hfl]; exact part_flat (HSET.out.keep hkb) hn9 HI.out.2.1 zero64 hnq)
     clear hk2 hkb hfl hnq
     go_wp2_with fail
     go_meet
     exact ⟨_, HPC.out, HX.out⟩
   case rest =>
   obtain ⟨cs, hpc, hx⟩ := hcut
   have hbx := hx.2.1
   have hwx := hx.2.2
   clear HX HSET e0 HNQ hx
   generalize bareD p = q at *
   have hone := hpc.one
   obtain ⟨A8, n8, c8, M1, e1', z1, M2, e2', z2, M3, e3', z3, N1, h1', t1, N2, h2', t2, N3, h3', t3, rfl⟩ := hpc.form
   have g0 : wc.cell? ⟨wr.heap.size + 1, 0, none⟩ = some (.int .i64 q.kind) := hbx.cell 0
   have g1 : wc.cell? ⟨wr.heap.size + 1, 1, none⟩ = some (.string q.name) := hbx.cell 1
   have g2 : wc.cell? ⟨wr.heap.size + 1, 2, none⟩ = some (.slice A8 n8 c8) := hbx.cell 2
   have g3 : wc.cell? ⟨wr.heap.size + 1, 3, none⟩ = some (.int .i64 q.dir) := hbx.cell 3
   have g4 : wc.cell? ⟨wr.heap.size + 1, 4, none⟩ = some (.bool q.left.start) := hbx.cell 4
   have g5 : wc.cell? ⟨wr.heap.size + 1, 5, none⟩ = some (.bool q.left.fin) := hbx.cell 5
   have g6 : wc.cell? ⟨wr.heap.size + 1, 6, none⟩ = some (.slice M1 e1' z1) := hbx.cell 6
   have g7 : wc.cell? ⟨wr.heap.size + 1, 7, none⟩ = some (.slice M2 e2' z2) := hbx.cell 7
   have g8 : wc.cell? ⟨wr.heap.size + 1, 8, none⟩ = some (.slice M3 e3' z3) := hbx.cell 8
   have g9 : wc.cell? ⟨wr.heap.size + 1, 9, none⟩ = some (.int .i64 q.left.cursor) := hbx.cell 9
   have g10 : wc.cell? ⟨wr.heap.size + 1, 10, none⟩ = some (.bool q.right.start) := hbx.cell 10
   have g11 : wc.cell? ⟨wr.heap.size + 1, 11, none⟩ = some (.bool q.right.fin) := hbx.cell 11
   have g12 : wc.cell? ⟨wr.heap.size + 1, 12, none⟩ = some (.slice N1 h1' t1) := hbx.cell 12
   have g13 : wc.cell? ⟨wr.heap.size + 1, 13, none⟩ = some (.slice N2 h2' t2) := hbx.cell 13
   have g14 : wc.cell? ⟨wr.heap.size + 1, 14, none⟩ = some (.slice N3 h3' t3) := hbx.cell 14
   have g15 : wc.cell? ⟨wr.heap.size + 1, 15, none⟩ = some (.int .i64 q.right.cursor) := hbx.cell 15
   have hk3 : Keeps wr (RowX B w.heap.size u3) wc (RowX B w.heap.size u3) := Keeps.below hwx (fun _ h _ => h)
   obtain ⟨css, y1, y2, y3, y4⟩ := HOWN.out.kept (w' := wc) (R' := PartX wc (RowX B w.heap.size u3)) (fun _ _ h => own_below h hwx) (fun _ _ => PartX.keep hk3)
   have hzc := hwx.size
   have hbz := HB.out.size
   have HO := Lib.hid (World.ownsRow.alloc y4 (.cells #[.int .i64 q.kind, .string q.name, .slice A8 n8 c8, .int .i64 q.dir, .bool q.left.start, .bool q.left.fin, .slice M1 e1' z1, .slice M2 e2' z2, .slice M3 e3' z3, .int .i64 q.left.cursor, .bool q.right.start, .bool q.right.fin, .slice N1 h1' t1, .slice N2 h2' t2, .slice N3 h3' t3, .int .i64 q.right.cursor] 98))
   have HN2 := Lib.hid (Rd.new wc 98 16 1 [.int .i64 q.kind, .string q.name, .slice A8 n8 c8, .int .i64 q.dir, .bool q.left.start, .bool q.left.fin, .slice M1 e1' z1, .slice M2 e2' z2, .slice M3 e3' z3, .int .i64 q.left.cursor, .bool q.right.start, .bool q.right.fin, .slice N1 h1' t1, .slice N2 h2' t2, .slice N3 h3' t3, .int .i64 q.right.cursor] rfl)
   have H1C := Lib.hid hone.2
   have HPQ := Lib.hid hpc
   have HWC := Lib.hid hwx
   have Y1 := Lib.hid y1
   have Y2 := Lib.hid y2
   have Y3 := Lib.hid y3
   clear hbx hwx hk3 hpc y1 y2 y3 y4 hone
   go_wp2_with (at_builtin; refine wpList_append_rd _ rfl (.tmp 52) (.tmp 54) 41 rfl w.heap.size 98 i0 _ 16 232 Tryz.underlying41 hi hz0 hz1 hz2 rfl (by decide) _ _ _ rfl HO.out _ (some ⟨wc.heap.size, 0, none⟩) 1 1 [.int .i64 q.kind, .string q.name, .slice A8 n8 c8, .int .i64 q.dir, .bool q.left.start, .bool q.left.fin, .slice M1 e1' z1, .slice M2 e2' z2, .slice M3 e3' z3, .int .i64 q.left.cursor, .bool q.right.start, .bool q.right.fin, .slice N1 h1' t1, .slice N2 h2' t2, .slice N3 h3' t3, .int .i64 q.right.cursor] rfl HN2.out H1C.out (by rw [hml]; unfold maxLen; omega) (by rw [hml]; omega) (by simp; omega) ?_)
   intro v9 w9 happ
   rw [← hml] at happ
   have HBN := Lib.hid ((HB.out.trans (HWC.out.mono hbz)).trans (((Below.refl _ _).alloc (Nat.le_trans hbz hzc) _).trans (happ.below (by simp; omega) HO.out)))
   have hka : Keeps wc (RowX B w.heap.size u3) w9 (RowX B w.heap.size v9) := (Keeps.alloc _ (fun _ h _ => h)).trans (row_app hB HO.out happ)
   have HOW := Lib.hid (OwnL.push Y1.out Y2.out Y3.out (fun _ _ => PartX.keep hka) (HPQ.out.keep hka) rfl happ)
   clear happ hka
   go_wp2_with fail
   refine ⟨⟨k + 1, hlt, by go_num, ?_, HBN.out⟩, by simp only [intOf]; omega⟩
   rw [HTK.out]
   exact HOW.out
  ·obtain rfl : k = n := by omega
   have htl : l.take k = l := by rw [List.take_of_length_le (by rw [HLEN.out]; exact Nat.le_refl _)]
   rw [htl] at hown
   obtain ⟨Am, km, rfl, _⟩ := hown.form
   have hmk : (l.map bareD).length = k := by rw [List.length_map, HLEN.out]
   have hres := OwnL.done hown (R' := PartX wr (Fr B w.heap.size)) (X := Fr B w.heap.size) (fun _ _ => PartX.keep (Keeps.refl (fun _ h => h.imp id (fun h => h.1)))) (fun b hb' => by
    obtain ⟨_, _, _, _, h4⟩ := hown
    exact .inr (own_lt h4 hb').1)
   rw [hmk] at hres
   have HRES := Lib.hid hres
   have HB := Lib.hid hb
   clear hown hb hres
   rw [hmk]
   go_wp2_with fail
   go_ret
   exact ⟨⟨Am, km, rfl, HRES.out⟩, HB.out⟩
end Go.Proofs.YthnhbcohfoodlaaGreatDoor
