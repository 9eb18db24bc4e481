/- The closed fact that scriptlaw6 asks first: a rule from a to b goes forth and back. -/
import Derived.Test.YthcjiainpaebfaaForth
namespace Go.Proofs.Ythcjiainpaebfaa
open Go.RowKit Go.Maps

def itD (r : Int) : ItemD := ⟨1, r, [], ⟨#[]⟩⟩
def sideD (r : Int) : SideD := ⟨false, false, [], [itD r], [], -1⟩
def aliveL : List PartD := [⟨2, ⟨#[]⟩, [], 3, sideD 97, sideD 98⟩]
theorem alive_forth : readyP false aliveL = (⟨false, [], [⟨⟨#[]⟩, [⟨false, false, [], [[(97, 97)]], [], [98], 1⟩]⟩]⟩, (0, 0)) := by rfl
theorem alive_back : readyP true aliveL = (⟨false, [], [⟨⟨#[]⟩, [⟨false, false, [], [[(98, 98)]], [], [97], 1⟩]⟩]⟩, (0, 0)) := by rfl

theorem rd_none (w : World) (B sz : Nat) : Rd w B sz none 0 [] := ⟨by simp, fun h => absurd h (Nat.lt_irrefl 0)⟩
theorem rdl_none {α : Type} (R : α → List Value → Prop) (w : World) (B sz : Nat) : RdL R w B sz none 0 [] := ⟨[], rfl, rfl, by simp, by simp, rd_none w B sz⟩
theorem it_read {w : World} {B g : Nat} {r : Int} (h : Blk w g 43 #[.int .i64 1, .int .i32 r, .slice none 0 0, .string ⟨#[]⟩]) (hg : g < B) : RdIt w B (some ⟨g, 0, none⟩) 1 [itD r] := by
  refine ⟨[[.int .i64 1, .int .i32 r, .slice none 0 0, .string ⟨#[]⟩]], rfl, rfl, ?_, by simp, by simp, fun _ => ⟨g, 0, rfl, hg, fun j u hu => ?_⟩⟩
  · intro i a cs ha hc
    have hi : i = 0 := by
      have := (List.getElem?_eq_some_iff.1 ha).1
      simp at this
      omega
    subst hi
    simp at ha hc
    subst ha hc
    exact ⟨none, 0, 0, rfl, rd_none _ _ _, Nat.zero_le _, by simp [i64R, itD], Nat.zero_le _⟩
  · rw [Nat.zero_add, h.cell]
    simpa using hu
theorem side_read {w : World} {B g : Nat} {r : Int} (h : RdIt w B (some ⟨g, 0, none⟩) 1 [itD r]) : SideC w B (sideD r) [.bool false, .bool false, .slice none 0 0, .slice (some ⟨g, 0, none⟩) 1 1, .slice none 0 0, .int .i64 (-1)] :=
  ⟨none, 0, 0, some ⟨g, 0, none⟩, 1, 1, none, 0, 0, rfl, rdl_none _ _ _ _, h, rdl_none _ _ _ _, Nat.zero_le _, by unfold maxLen; omega, Nat.zero_le _, by simp [i64R, sideD]⟩
theorem alive_read {w : World} {B g1 g2 g3 : Nat} (h1 : RdIt w B (some ⟨g1, 0, none⟩) 1 [itD 97]) (h2 : RdIt w B (some ⟨g2, 0, none⟩) 1 [itD 98])
    (h3 : Blk w g3 40 #[.int .i64 2, .string ⟨#[]⟩, .slice none 0 0, .int .i64 3, .bool false, .bool false, .slice none 0 0, .slice (some ⟨g1, 0, none⟩) 1 1, .slice none 0 0, .int .i64 (-1), .bool false, .bool false, .slice none 0 0, .slice (some ⟨g2, 0, none⟩) 1 1, .slice none 0 0, .int .i64 (-1)]) (hg : g3 < B) : RdP w B (some ⟨g3, 0, none⟩) 1 aliveL := by
  refine ⟨[[.int .i64 2, .string ⟨#[]⟩, .slice none 0 0, .int .i64 3, .bool false, .bool false, .slice none 0 0, .slice (some ⟨g1, 0, none⟩) 1 1, .slice none 0 0, .int .i64 (-1), .bool false, .bool false, .slice none 0 0, .slice (some ⟨g2, 0, none⟩) 1 1, .slice none 0 0, .int .i64 (-1)]], rfl, rfl, ?_, by simp, by simp, fun _ => ⟨g3, 0, rfl, hg, fun j u hu => ?_⟩⟩
  · intro i a cs ha hc
    have hi : i = 0 := by
      have := (List.getElem?_eq_some_iff.1 ha).1
      simp [aliveL] at this
      omega
    subst hi
    simp [aliveL] at ha hc
    subst ha hc
    exact ⟨none, 0, 0, _, _, rfl, rd_none _ _ _, Nat.zero_le _, side_read h1, side_read h2, by unfold i64R; decide, by unfold i64R; decide, Nat.zero_le _⟩
  · rw [Nat.zero_add, h3.cell]
    simpa using hu
/-- Where the one rule's one rune lies. -/
theorem one_rule {w : World} {X : Nat → Prop} {cs : List Value} {sm : Bool} {nm : ByteArray} {r : RuleD} {t : Int} (h : ScriptC w X ⟨sm, [], [⟨nm, [r]⟩]⟩ cs) (hr : r.target = [t]) :
    ∃ A1 n1 c1 b1 o1 c2 b2 o2 c3 b3 o3 c4, cs = [.bool sm, .slice A1 n1 c1, .slice (some ⟨b1, o1, none⟩) 1 c2] ∧ b1 < w.heap.size ∧ b2 < w.heap.size ∧ b3 < w.heap.size ∧ w.cell? ⟨b1, o1 + 1, none⟩ = some (.slice (some ⟨b2, o2, none⟩) 1 c3) ∧ w.cell? ⟨b2, o2 + 5, none⟩ = some (.slice (some ⟨b3, o3, none⟩) 1 c4) ∧ w.cell? ⟨b3, o3, none⟩ = some (.int .i32 t) := by
  obtain ⟨u, v, rfl, ⟨A1, n1, c1, rfl, _⟩, ⟨A2, n2, c2, rfl, hp, _⟩⟩ := h
  have e2 := hp.len
  obtain ⟨b1, o1, ps, rfl, _, hb1, ⟨q, rfl, A3, n3, c3, rfl, hq, _⟩, _, f1⟩ := hp.at (k := 0) rfl
  have e3 := hq.len
  obtain ⟨b2, o2, rs, rfl, _, hb2, ⟨u1, u2, u3, A4, n4, c4, rfl, _, _, _, hx, _⟩, _, f2⟩ := hq.at (k := 0) rfl
  rw [hr] at hx
  have e4 : n4 = 1 := by have := hx.1; simp [runeCells] at this; omega
  obtain ⟨b3, o3, rfl, _, hb3, f3⟩ := hx.2 (by omega)
  simp at e2 e3
  subst e2 e3 e4
  refine ⟨A1, n1, c1, b1, o1, c2, b2, o2, c3, b3, o3, c4, rfl, hb1, hb2, hb3, ?_, ?_, ?_⟩
  · simpa using f1 1 _ rfl
  · simpa using f2 5 _ rfl
  · simpa using f3 0 _ rfl

set_option maxRecDepth 100000 in
theorem alive_item (r : Int) (w : World) : Calls Try.prog 20 #[.int .i32 r] w fun e w' => e = .returned (.slice (some ⟨w.heap.size, 0, none⟩) 1 1) ∧ w' = w.alloc (.cells #[.int .i64 1, .int .i32 r, .slice none 0 0, .string ⟨#[]⟩] 43) := by
  go_enter Try.func20, Try.ntmps20
  go_wp2_with fail
  go_ret
  exact ⟨rfl, rfl⟩

set_option maxRecDepth 100000 in
set_option maxHeartbeats 6400000 in
theorem alive_true (w : World) : Calls Try.prog 10 #[] w fun e w' => e = .returned (.bool true) ∧ Below w.heap.size w w' := by
  have hi := alive_item
  go_enter Try.func10, Try.ntmps10
  have HI := Lib.hid hi
  clear hi
  go_wp2_with fail
  refine (HI.out 97 _).mono ?_
  rintro e w1 ⟨rfl, rfl⟩
  go_wp2_with fail
  refine (HI.out 98 _).mono ?_
  rintro e w2 ⟨rfl, rfl⟩
  have hx1 := Blk.alloc (Blk.alloc (Blk.new w 43 #[.int .i64 1, .int .i32 97, .slice none 0 0, .string ⟨#[]⟩]) (.cells #[.int .i64 1, .int .i32 98, .slice none 0 0, .string ⟨#[]⟩] 43)) (.cells #[.int .i64 2, .string ⟨#[]⟩, .slice none 0 0, .int .i64 3, .bool false, .bool false, .slice none 0 0, .slice (some ⟨w.heap.size, 0, none⟩) 1 1, .slice none 0 0, .int .i64 (-1), .bool false, .bool false, .slice none 0 0, .slice (some ⟨w.heap.size + 1, 0, none⟩) 1 1, .slice none 0 0, .int .i64 (-1)] 40)
  have hx2 := Blk.alloc (Blk.new (w.alloc (.cells #[.int .i64 1, .int .i32 97, .slice none 0 0, .string ⟨#[]⟩] 43)) 43 #[.int .i64 1, .int .i32 98, .slice none 0 0, .string ⟨#[]⟩]) (.cells #[.int .i64 2, .string ⟨#[]⟩, .slice none 0 0, .int .i64 3, .bool false, .bool false, .slice none 0 0, .slice (some ⟨w.heap.size, 0, none⟩) 1 1, .slice none 0 0, .int .i64 (-1), .bool false, .bool false, .slice none 0 0, .slice (some ⟨w.heap.size + 1, 0, none⟩) 1 1, .slice none 0 0, .int .i64 (-1)] 40)
  have hx3 := Blk.new ((w.alloc (.cells #[.int .i64 1, .int .i32 97, .slice none 0 0, .string ⟨#[]⟩] 43)).alloc (.cells #[.int .i64 1, .int .i32 98, .slice none 0 0, .string ⟨#[]⟩] 43)) 40 #[.int .i64 2, .string ⟨#[]⟩, .slice none 0 0, .int .i64 3, .bool false, .bool false, .slice none 0 0, .slice (some ⟨w.heap.size, 0, none⟩) 1 1, .slice none 0 0, .int .i64 (-1), .bool false, .bool false, .slice none 0 0, .slice (some ⟨w.heap.size + 1, 0, none⟩) 1 1, .slice none 0 0, .int .i64 (-1)]
  rw [show (w.alloc (.cells #[.int .i64 1, .int .i32 97, .slice none 0 0, .string ⟨#[]⟩] 43)).heap.size = w.heap.size + 1 by simp] at hx2
  rw [show ((w.alloc (.cells #[.int .i64 1, .int .i32 97, .slice none 0 0, .string ⟨#[]⟩] 43)).alloc (.cells #[.int .i64 1, .int .i32 98, .slice none 0 0, .string ⟨#[]⟩] 43)).heap.size = w.heap.size + 1 + 1 by simp] at hx3
  have hbl : Below w.heap.size w (((w.alloc (.cells #[.int .i64 1, .int .i32 97, .slice none 0 0, .string ⟨#[]⟩] 43)).alloc (.cells #[.int .i64 1, .int .i32 98, .slice none 0 0, .string ⟨#[]⟩] 43)).alloc (.cells #[.int .i64 2, .string ⟨#[]⟩, .slice none 0 0, .int .i64 3, .bool false, .bool false, .slice none 0 0, .slice (some ⟨w.heap.size, 0, none⟩) 1 1, .slice none 0 0, .int .i64 (-1), .bool false, .bool false, .slice none 0 0, .slice (some ⟨w.heap.size + 1, 0, none⟩) 1 1, .slice none 0 0, .int .i64 (-1)] 40)) := (((Below.refl _ _).alloc (Nat.le_refl _) _).alloc (by simp) _).alloc (by simp; omega) _
  have hsz : (((w.alloc (.cells #[.int .i64 1, .int .i32 97, .slice none 0 0, .string ⟨#[]⟩] 43)).alloc (.cells #[.int .i64 1, .int .i32 98, .slice none 0 0, .string ⟨#[]⟩] 43)).alloc (.cells #[.int .i64 2, .string ⟨#[]⟩, .slice none 0 0, .int .i64 3, .bool false, .bool false, .slice none 0 0, .slice (some ⟨w.heap.size, 0, none⟩) 1 1, .slice none 0 0, .int .i64 (-1), .bool false, .bool false, .slice none 0 0, .slice (some ⟨w.heap.size + 1, 0, none⟩) 1 1, .slice none 0 0, .int .i64 (-1)] 40)).heap.size = w.heap.size + 3 := by simp
  have hrd := alive_read (B := w.heap.size + 3) (it_read hx1 (by omega)) (it_read hx2 (by omega)) hx3 (by omega)
  have HRD := Lib.hid hrd
  have HBL := Lib.hid hbl
  have HSZ := Lib.hid hsz
  clear hx1 hx2 hx3 hbl hrd hsz HI
  go_upto_region 3 with fail
  have hrd := HRD.out
  have hbl := HBL.out
  have hsz := HSZ.out
  clear HRD HBL HSZ
  generalize ((w.alloc (.cells #[.int .i64 1, .int .i32 97, .slice none 0 0, .string ⟨#[]⟩] 43)).alloc (.cells #[.int .i64 1, .int .i32 98, .slice none 0 0, .string ⟨#[]⟩] 43)).alloc (.cells #[.int .i64 2, .string ⟨#[]⟩, .slice none 0 0, .int .i64 3, .bool false, .bool false, .slice none 0 0, .slice (some ⟨w.heap.size, 0, none⟩) 1 1, .slice none 0 0, .int .i64 (-1), .bool false, .bool false, .slice none 0 0, .slice (some ⟨w.heap.size + 1, 0, none⟩) 1 1, .slice none 0 0, .int .i64 (-1)] 40) = W3 at *
  have H1 := Lib.hid (fun (w' : World) (hb : Below W3.heap.size W3 w') => syn_forth (w.heap.size + 3) (some ⟨w.heap.size + 1 + 1, 0, none⟩) 1 1 aliveL w' (by unfold maxLen; omega) (by have := hb.size; omega) (RdP.weak (weak_of (hb.mono (by omega)) (Nat.le_refl _)) hrd))
  have H2 := Lib.hid (fun (w' : World) (hb : Below W3.heap.size W3 w') => syn_back (w.heap.size + 3) (some ⟨w.heap.size + 1 + 1, 0, none⟩) 1 1 aliveL w' (by unfold maxLen; omega) (by have := hb.size; omega) (RdP.weak (weak_of (hb.mono (by omega)) (Nat.le_refl _)) hrd))
  have HBL := Lib.hid hbl
  clear hrd hbl
  go_wp2_with fail
  refine (H1.out _ (Below.refl _ _)).mono ?_
  rintro e w1 ⟨⟨cs, _, he, hcs⟩, hb1⟩
  rw [alive_forth] at he hcs
  subst he
  obtain ⟨A1, n1, c1, b1, o1, c2, b2, o2, c3, b3, o3, c4, rfl, l1, l2, l3, g1, g2, g3⟩ := one_rule hcs rfl
  have hq := two_new w1 26 29 #[.bool false, .slice A1 n1 c1, .slice (some ⟨b1, o1, none⟩) 1 c2] #[.int .i64 0, .int .i64 0]
  have HQ := Lib.hid hq
  have HB1 := Lib.hid (hb1.trans (hq.2.2.1.mono hb1.size))
  have HG := Lib.hid (And.intro l1 (And.intro l2 (And.intro l3 (And.intro g1 (And.intro g2 g3)))))
  clear hcs hb1 l1 l2 l3 g1 g2 g3 hq
  go_wp2_with fail
  refine (H2.out _ HB1.out).mono ?_
  rintro e w2 ⟨⟨ds, _, he, hds⟩, hb2⟩
  rw [alive_back] at he hds
  subst he
  obtain ⟨B1, m1, d1, k1, p1, d2, k2, p2, d3, k3, p3, d4, rfl, s1, s2, s3, j1, j2, j3⟩ := one_rule hds rfl
  have hq := two_new w2 26 29 #[.bool false, .slice B1 m1 d1, .slice (some ⟨k1, p1, none⟩) 1 d2] #[.int .i64 0, .int .i64 0]
  have HR := Lib.hid hq
  have HB2 := Lib.hid hb2
  have HJ := Lib.hid (And.intro s1 (And.intro s2 (And.intro s3 (And.intro j1 (And.intro j2 j3)))))
  clear hds hb2 s1 s2 s3 j1 j2 j3 hq H1 H2
  go_upto_region 5 with fail
  obtain ⟨r0, r1, r2, r3⟩ := HR.out
  obtain ⟨q0, q1, q2, q3⟩ := HQ.out
  obtain ⟨l1, l2, l3, g1, g2, g3⟩ := HG.out
  obtain ⟨s1, s2, s3, j1, j2, j3⟩ := HJ.out
  have hbw := HB2.out.trans (r2.mono HB2.out.size)
  have hbv := q2.trans (hbw.mono q2.size)
  have x0 := Blk.below q0 hbw q0.lt
  have x1 := Blk.below q1 hbw q1.lt
  have HBB := Lib.hid (HBL.out.trans ((HB1.out.trans (hbw.mono HB1.out.size)).mono (by omega)))
  clear HR HQ HG HJ HB1 HB2 HBL q0 q1
  generalize (w2.alloc (.cells #[.bool false, .slice B1 m1 d1, .slice (some ⟨k1, p1, none⟩) 1 d2] 26)).alloc (.cells #[.int .i64 0, .int .i64 0] 29) = W5 at *
  have a0 : W5.cell? ⟨w1.heap.size + 1, 0, none⟩ = some (.int .i64 0) := x1.cell 0
  have a1 : W5.cell? ⟨w2.heap.size + 1, 0, none⟩ = some (.int .i64 0) := r1.cell 0
  have a2 : W5.cell? ⟨w1.heap.size, 2, none⟩ = some (.slice (some ⟨b1, o1, none⟩) 1 c2) := x0.cell 2
  have a3 : W5.cell? ⟨w2.heap.size, 2, none⟩ = some (.slice (some ⟨k1, p1, none⟩) 1 d2) := r0.cell 2
  have a4 := (hbv.cell (p := ⟨b1, o1 + 1, none⟩) l1).trans g1
  have a5 := (hbv.cell (p := ⟨b2, o2 + 5, none⟩) l2).trans g2
  have a6 := (hbv.cell (p := ⟨b3, o3, none⟩) l3).trans g3
  have a7 := (r2.cell (p := ⟨k1, p1 + 1, none⟩) s1).trans j1
  have a8 := (r2.cell (p := ⟨k2, p2 + 5, none⟩) s2).trans j2
  have a9 := (r2.cell (p := ⟨k3, p3, none⟩) s3).trans j3
  clear x0 x1 r0 r1 r2 r3 q2 q3 hbw hbv l1 l2 l3 g1 g2 g3 s1 s2 s3 j1 j2 j3 hsz
  go_wp2_with fail
  go_ret
  exact ⟨rfl, HBB.out⟩

end Go.Proofs.Ythcjiainpaebfaa
