/- Same: two scripts that read as the same data are told the same. The walks of scriptref2.Same, scriptref6.sameSets, SameRule, Same, on what is the same. -/
import Derived.Test.YthcjiainpaebfaaRuleSyn
import Derived.Test.YthcjiainpaebfaaSame
import Derived.Deep.RegionHeldLaw
namespace Go.Proofs.Ythcjiainpaebfaa
open Go.RowKit

set_option maxHeartbeats 800000 in
theorem set_same (A C : Option Addr) (n m c d : Nat) (s : Spans) (w : World) (B B' : Nat) (hn : n ≤ 9223372036854775807) (hx : RdS w B A n s) (hy : RdS w B' C m s) :
    Calls Try.prog 18 #[.slice A n c, .slice C m d] w fun e w' => e = .returned (.bool true) ∧ ∃ k, w' = w.drewN k := by
  obtain rfl : n = m := by rw [← hx.len, ← hy.len]
  have HX := Lib.hid hx
  have HY := Lib.hid hy
  have HL := Lib.hid hx.len
  clear hx hy
  go_enter Try.func18, Try.ntmps18
  go_wp2
  go_loopw [13] (fun i wr => ∃ k q : Nat, k ≤ n ∧ i = .int .i64 k ∧ wr = w.drewN q) (fun i _ => n - (intOf i).toNat)
  case atStart => exact ⟨0, 0, Nat.zero_le _, rfl, rfl⟩
  case round =>
    obtain ⟨k, q, hk, rfl, rfl⟩ := hrel
    by_cases hlt : k < n
    · obtain ⟨⟨x, y⟩, hz⟩ : ∃ z, s[k]? = some z := ⟨_, List.getElem?_eq_getElem (by rw [HL.out]; exact hlt)⟩
      obtain ⟨b1, o1, rfl, hb1, c0, c1⟩ := HX.out.at hz
      obtain ⟨b2, o2, rfl, hb2, d0, d1⟩ := HY.out.at hz
      clear hz
      go_wp2
      go_quiet (fail)
      go_wp2
      refine ⟨⟨k + 1, _, by omega, by go_num, rfl⟩, by simp [intOf]; omega⟩
    · obtain rfl : k = n := by omega
      go_wp2
      go_ret
      exact ⟨rfl, _, rfl⟩

set_option maxHeartbeats 1600000 in
theorem sets_same (u1 u2 : Value) (ll : List Spans) (w : World) (X X' : Nat → Prop) (hx : SetsV w X ll u1) (hy : SetsV w X' ll u2) :
    Calls Try.prog 31 #[u1, u2] w fun e w' => e = .returned (.bool true) ∧ ∃ k, w' = w.drewN k := by
  obtain ⟨A, n, c, rfl, hx, hn⟩ := hx
  obtain ⟨C, m, d, rfl, hy, _⟩ := hy
  obtain rfl : n = m := by rw [← hx.len, ← hy.len]
  have hn2 : n ≤ 9223372036854775807 := by unfold maxLen at hn; omega
  have HX := Lib.hid hx
  have HY := Lib.hid hy
  have HL := Lib.hid hx.len
  clear hx hy hn
  go_enter Try.func31, Try.ntmps31
  go_wp2
  go_loopw [13] (fun i wr => ∃ k q : Nat, k ≤ n ∧ i = .int .i64 k ∧ wr = w.drewN q) (fun i _ => n - (intOf i).toNat)
  case atStart => exact ⟨0, 0, Nat.zero_le _, rfl, rfl⟩
  case round =>
    obtain ⟨k, q, hk, rfl, hwr⟩ := hrel
    by_cases hlt : k < n
    · obtain ⟨s, hz⟩ : ∃ z, ll[k]? = some z := ⟨_, List.getElem?_eq_getElem (by rw [HL.out]; exact hlt)⟩
      obtain ⟨b1, o1, cs1, rfl, _, hb1, ⟨v1, rfl, A1, n1, e1, rfl, hr1, hm1⟩, _, g1⟩ := HX.out.at hz
      obtain ⟨b2, o2, cs2, rfl, _, hb2, ⟨v2, rfl, A2, n2, e2, rfl, hr2, _⟩, _, g2⟩ := HY.out.at hz
      have c0 := g1 0 _ rfl
      have d0 := g2 0 _ rfl
      simp only [Nat.mul_one, Nat.add_zero] at c0 d0
      replace c0 : wr.cell? ⟨b1, o1 + k, none⟩ = some (.slice A1 n1 e1) := by rw [hwr]; exact c0
      replace d0 : wr.cell? ⟨b2, o2 + k, none⟩ = some (.slice A2 n2 e2) := by rw [hwr]; exact d0
      have HC := Lib.hid (fun q' => show Calls Try.prog 18 #[.slice A1 n1 e1, .slice A2 n2 e2] (wr.drewN q') (fun e w' => e = .returned (.bool true) ∧ ∃ k, w' = (wr.drewN q').drewN k) from by rw [hwr]; exact set_same A1 A2 n1 n2 e1 e2 s ((w.drewN q).drewN q') w.heap.size w.heap.size (by unfold maxLen at hm1; omega) (hr1.rd (fun _ _ h => h)) (hr2.rd (fun _ _ h => h)))
      have HW := Lib.hid hwr
      clear hz hr1 hr2 g1 g2 hwr
      go_wp2
      go_quiet ((go_at_call 18; exact Calls.quiet_of (HC.out _)))
      go_wp2
      refine ⟨⟨k + 1, q + nq, by omega, by go_num, by rw [HW.out, World.drewN_drewN]⟩, by simp [intOf]; omega⟩
    · obtain rfl : k = n := by omega
      have HW := Lib.hid hwr
      clear hwr
      go_wp2
      go_ret
      exact ⟨rfl, q, HW.out⟩

set_option maxRecDepth 100000 in
set_option maxHeartbeats 3200000 in
theorem rule_same (cs ds : List Value) (r : RuleD) (w : World) (X X' : Nat → Prop) (hx : RuleC w X r cs) (hy : RuleC w X' r ds) :
    Calls Try.prog 19 #[.agg cs.toArray, .agg ds.toArray] w fun e w' => e = .returned (.bool true) ∧ Below w.heap.size w w' := by
  obtain ⟨u1, u2, u3, A, n, c, rfl, a1, a2, a3, a4, hn⟩ := hx
  obtain ⟨v1, v2, v3, C, m, d, rfl, b1, b2, b3, b4, hm⟩ := hy
  have hs1 := fun (w' : World) (hb : Below w.heap.size w w') => sets_same u1 v1 r.before w' X X' (a1.keep (Keeps.below hb (fun _ h _ => h))) (b1.keep (Keeps.below hb (fun _ h _ => h))) |>.mono (fun e w'' ⟨he, k, hk⟩ => (⟨he, hk ▸ below_drewN (Below.refl _ _) k⟩ : e = Ending.returned (.bool true) ∧ Below w'.heap.size w' w''))
  have hs2 := fun (w' : World) (hb : Below w.heap.size w w') => sets_same u2 v2 r.source w' X X' (a2.keep (Keeps.below hb (fun _ h _ => h))) (b2.keep (Keeps.below hb (fun _ h _ => h))) |>.mono (fun e w'' ⟨he, k, hk⟩ => (⟨he, hk ▸ below_drewN (Below.refl _ _) k⟩ : e = Ending.returned (.bool true) ∧ Below w'.heap.size w' w''))
  have hs3 := fun (w' : World) (hb : Below w.heap.size w w') => sets_same u3 v3 r.after w' X X' (a3.keep (Keeps.below hb (fun _ h _ => h))) (b3.keep (Keeps.below hb (fun _ h _ => h))) |>.mono (fun e w'' ⟨he, k, hk⟩ => (⟨he, hk ▸ below_drewN (Below.refl _ _) k⟩ : e = Ending.returned (.bool true) ∧ Below w'.heap.size w' w''))
  have hs4 := fun (w' : World) (hb : Below w.heap.size w w') => ref_same A C n m c d r.target r.target w' (by unfold maxLen at hn; omega) ((a4.keep (Keeps.below (X' := X) hb (fun _ h _ => h))).rd (fun _ _ h => h)) ((b4.keep (Keeps.below (X' := X') hb (fun _ h _ => h))).rd (fun _ _ h => h))
  obtain ⟨P1, p1, q1, rfl, _⟩ := a1
  obtain ⟨P2, p2, q2, rfl, _⟩ := a2
  obtain ⟨P3, p3, q3, rfl, _⟩ := a3
  obtain ⟨Q1, r1, s1, rfl, _⟩ := b1
  obtain ⟨Q2, r2, s2, rfl, _⟩ := b2
  obtain ⟨Q3, r3, s3, rfl, _⟩ := b3
  have HS1 := Lib.hid hs1
  have HS2 := Lib.hid hs2
  have HS3 := Lib.hid hs3
  have HS4 := Lib.hid hs4
  have hS4 := fun (w' : World) (hb : Below w.heap.size w w') => (HS4.out w' hb).mono (fun e w'' ⟨he, k, hk⟩ => (⟨he, hk ▸ below_drewN (Below.refl _ _) k⟩ : e = Ending.returned (.bool (r.target == r.target)) ∧ Below w'.heap.size w' w''))
  have HS5 := Lib.hid hS4
  have hk0 := Blk.alloc (Blk.new w 59 #[.bool r.start, .bool r.fin, .slice P1 p1 q1, .slice P2 p2 q2, .slice P3 p3 q3, .slice A n c, .int .i64 r.cursor]) (.cells #[.bool r.start, .bool r.fin, .slice Q1 r1 s1, .slice Q2 r2 s2, .slice Q3 r3 s3, .slice C m d, .int .i64 r.cursor] 59)
  have hj0 := Blk.new (w.alloc (.cells #[.bool r.start, .bool r.fin, .slice P1 p1 q1, .slice P2 p2 q2, .slice P3 p3 q3, .slice A n c, .int .i64 r.cursor] 59)) 59 #[.bool r.start, .bool r.fin, .slice Q1 r1 s1, .slice Q2 r2 s2, .slice Q3 r3 s3, .slice C m d, .int .i64 r.cursor]
  rw [show (w.alloc (.cells #[.bool r.start, .bool r.fin, .slice P1 p1 q1, .slice P2 p2 q2, .slice P3 p3 q3, .slice A n c, .int .i64 r.cursor] 59)).heap.size = w.heap.size + 1 by simp] at hj0
  have HK0 := Lib.hid hk0
  have HJ0 := Lib.hid hj0
  have hb0 := ((Below.refl w.heap.size w).alloc (Nat.le_refl _) (.cells #[.bool r.start, .bool r.fin, .slice P1 p1 q1, .slice P2 p2 q2, .slice P3 p3 q3, .slice A n c, .int .i64 r.cursor] 59)).alloc (by simp) (.cells #[.bool r.start, .bool r.fin, .slice Q1 r1 s1, .slice Q2 r2 s2, .slice Q3 r3 s3, .slice C m d, .int .i64 r.cursor] 59)
  have HB0 := Lib.hid hb0
  clear hs1 hs2 hs3 hs4 a4 b4 hb0 hS4 hk0 hj0
  go_enter Try.func19, Try.ntmps19
  go_wp2_with fail
  refine (HS1.out _ HB0.out).mono ?_
  rintro e w1 ⟨rfl, hb⟩
  have HB1 := Lib.hid (HB0.out.trans (hb.mono HB0.out.size))
  have HK1 := Lib.hid (Blk.below HK0.out hb HK0.out.lt)
  have HJ1 := Lib.hid (Blk.below HJ0.out hb HJ0.out.lt)
  have x1 : w1.cell? ⟨w.heap.size, 3, none⟩ = some (.slice P2 p2 q2) := HK1.out.cell 3
  have y1 : w1.cell? ⟨w.heap.size + 1, 3, none⟩ = some (.slice Q2 r2 s2) := HJ1.out.cell 3
  clear hb
  go_wp2_with fail
  refine (HS2.out _ HB1.out).mono ?_
  rintro e w2 ⟨rfl, hb⟩
  have HB2 := Lib.hid (HB1.out.trans (hb.mono HB1.out.size))
  have HK2 := Lib.hid (Blk.below HK1.out hb HK1.out.lt)
  have HJ2 := Lib.hid (Blk.below HJ1.out hb HJ1.out.lt)
  have x2 : w2.cell? ⟨w.heap.size, 4, none⟩ = some (.slice P3 p3 q3) := HK2.out.cell 4
  have y2 : w2.cell? ⟨w.heap.size + 1, 4, none⟩ = some (.slice Q3 r3 s3) := HJ2.out.cell 4
  clear hb
  go_wp2_with fail
  refine (HS3.out _ HB2.out).mono ?_
  rintro e w3 ⟨rfl, hb⟩
  have HB3 := Lib.hid (HB2.out.trans (hb.mono HB2.out.size))
  have HK3 := Lib.hid (Blk.below HK2.out hb HK2.out.lt)
  have HJ3 := Lib.hid (Blk.below HJ2.out hb HJ2.out.lt)
  have x3 : w3.cell? ⟨w.heap.size, 5, none⟩ = some (.slice A n c) := HK3.out.cell 5
  have y3 : w3.cell? ⟨w.heap.size + 1, 5, none⟩ = some (.slice C m d) := HJ3.out.cell 5
  clear hb
  go_wp2_with fail
  refine (HS5.out _ HB3.out).mono ?_
  rintro e w4 ⟨rfl, hb⟩
  have HB4 := Lib.hid (HB3.out.trans (hb.mono HB3.out.size))
  have HK4 := Lib.hid (Blk.below HK3.out hb HK3.out.lt)
  have HJ4 := Lib.hid (Blk.below HJ3.out hb HJ3.out.lt)
  clear hb
  go_wp2_with fail
  go_ret
  exact ⟨ret_bool (by simp), HB4.out⟩

end Go.Proofs.Ythcjiainpaebfaa
