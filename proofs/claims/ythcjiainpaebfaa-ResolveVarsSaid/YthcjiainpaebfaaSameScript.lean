/- Same of two scripts that read as the same data: true. The walk of scriptref6.Same. -/
import Derived.Test.YthcjiainpaebfaaSameS
import Derived.Deep.DeepCutAuto
import Derived.BigRegion
namespace Go.Proofs.Ythcjiainpaebfaa
open Go.RowKit

/-- The boxes of the two scripts. -/
def SbAt (w : World) (cs ds : Array Value) (wx : World) : Prop := Blk wx w.heap.size 26 cs ∧ Blk wx (w.heap.size + 1) 26 ds ∧ Below w.heap.size w wx
theorem SbAt.below {w wx w2 : World} {cs ds : Array Value} (h : SbAt w cs ds wx) (hb : Below wx.heap.size wx w2) : SbAt w cs ds w2 :=
  ⟨Blk.below h.1 hb h.1.lt, Blk.below h.2.1 hb h.2.1.lt, h.2.2.trans (hb.mono h.2.2.size)⟩
/-- .. and of the two passes at hand. -/
def SpAt (w : World) (cs ds : Array Value) (g h : Nat) (a b : Array Value) (wx : World) : Prop := SbAt w cs ds wx ∧ Blk wx g 55 a ∧ Blk wx h 55 b
theorem SpAt.below {w wx w2 : World} {cs ds a b : Array Value} {g h : Nat} (q : SpAt w cs ds g h a b wx) (hb : Below wx.heap.size wx w2) : SpAt w cs ds g h a b w2 :=
  ⟨q.1.below hb, Blk.below q.2.1 hb q.2.1.lt, Blk.below q.2.2 hb q.2.2.lt⟩
theorem SpAt.drew {w wx : World} {cs ds a b : Array Value} {g h : Nat} (q : SpAt w cs ds g h a b wx) : SpAt w cs ds g h a b wx.drew := ⟨⟨q.1.1, q.1.2.1, q.1.2.2.drew⟩, q.2.1, q.2.2⟩
def Sc2Rel (w : World) (cs ds : Array Value) (g h : Nat) (a b : Array Value) (n : Nat) (i : Value) (wr : World) : Prop := ∃ k : Nat, k ≤ n ∧ i = .int .i64 k ∧ SpAt w cs ds g h a b wr
theorem SbAt.two {w wx : World} {cs ds : Array Value} (q : SbAt w cs ds wx) (a b : Array Value) :
    SpAt w cs ds wx.heap.size (wx.heap.size + 1) a b ((wx.alloc (.cells a 55)).alloc (.cells b 55)) := by
  have h1 := ((Below.refl wx.heap.size wx).alloc (Nat.le_refl _) (.cells a 55)).alloc (by simp) (.cells b 55)
  refine ⟨q.below h1, Blk.alloc (Blk.new _ _ _) _, ?_⟩
  have := Blk.new (wx.alloc (.cells a 55)) 55 b
  rwa [show (wx.alloc (.cells a 55)).heap.size = wx.heap.size + 1 by simp] at this
theorem SpAt.swap {w wx : World} {cs ds a b : Array Value} {g h : Nat} (q : SpAt w cs ds g h a b wx) : SpAt w cs ds h g b a wx := ⟨q.1, q.2.2, q.2.1⟩
def ScRel (w : World) (cs ds : Array Value) (n : Nat) (i : Value) (wr : World) : Prop := ∃ k : Nat, k ≤ n ∧ i = .int .i64 k ∧ SbAt w cs ds wr

set_option maxRecDepth 100000 in
set_option maxHeartbeats 6400000 in
theorem script_same (cs ds : List Value) (s : ScriptD) (w : World) (X X' : Nat → Prop) (hx : ScriptC w X s cs) (hy : ScriptC w X' s ds) :
    Calls Try.prog 8 #[.agg cs.toArray, .agg ds.toArray] w fun e w' => e = .returned (.bool true) ∧ Below w.heap.size w w' := by
  obtain ⟨u1, u2, rfl, ⟨A1, n1, c1, rfl, a1, hm1⟩, ⟨A2, n2, c2, rfl, a2, hm2⟩⟩ := hx
  obtain ⟨v1, v2, rfl, ⟨C1, m1, d1, rfl, b1, _⟩, ⟨C2, m2, d2, rfl, b2, _⟩⟩ := hy
  obtain rfl : n2 = m2 := by rw [← a2.len, ← b2.len]
  have hs1 := fun (w' : World) (hb : Below w.heap.size w w') => (set_same A1 C1 n1 m1 c1 d1 s.only w' w'.heap.size w'.heap.size (by unfold maxLen at hm1; omega) ((a1.keep (Keeps.below (X' := X) hb (fun _ h _ => h))).rd (fun _ _ h => h)) ((b1.keep (Keeps.below (X' := X') hb (fun _ h _ => h))).rd (fun _ _ h => h))).mono (fun e w'' ⟨he, k, hk⟩ => (⟨he, hk ▸ below_drewN (Below.refl _ _) k⟩ : e = Ending.returned (.bool true) ∧ Below w'.heap.size w' w''))
  have hn63 : n2 ≤ 9223372036854775807 := by unfold maxLen at hm2; omega
  have HA := Lib.hid a2
  have HC := Lib.hid b2
  have HL := Lib.hid a2.len
  have HS1 := Lib.hid hs1
  have hk0 := Blk.alloc (Blk.new w 26 #[.bool s.only?, .slice A1 n1 c1, .slice A2 n2 c2]) (.cells #[.bool s.only?, .slice C1 m1 d1, .slice C2 n2 d2] 26)
  have hj0 := Blk.new (w.alloc (.cells #[.bool s.only?, .slice A1 n1 c1, .slice A2 n2 c2] 26)) 26 #[.bool s.only?, .slice C1 m1 d1, .slice C2 n2 d2]
  rw [show (w.alloc (.cells #[.bool s.only?, .slice A1 n1 c1, .slice A2 n2 c2] 26)).heap.size = w.heap.size + 1 by simp] at hj0
  have HB0 := Lib.hid (show SbAt w _ _ _ from ⟨hk0, hj0, ((Below.refl w.heap.size w).alloc (Nat.le_refl _) _).alloc (by simp) _⟩)
  clear a1 a2 b1 b2 hs1 hk0 hj0
  go_enter Try.func8, Try.ntmps8
  go_wp2_with fail
  refine (HS1.out _ HB0.out.2.2).mono ?_
  rintro e w1 ⟨rfl, hb1⟩
  have HB1 := Lib.hid (SbAt.below HB0.out hb1)
  have x1 : w1.cell? ⟨w.heap.size, 2, none⟩ = some (.slice A2 n2 c2) := HB1.out.1.cell 2
  have y1 : w1.cell? ⟨w.heap.size + 1, 2, none⟩ = some (.slice C2 n2 d2) := HB1.out.2.1.cell 2
  clear hb1
  go_wp2_with fail
  go_loopw [34] (ScRel w #[.bool s.only?, .slice A1 n1 c1, .slice A2 n2 c2] #[.bool s.only?, .slice C1 m1 d1, .slice C2 n2 d2] n2) (fun i _ => n2 - (intOf i).toNat)
  case atStart => exact ⟨0, Nat.zero_le _, rfl, HB1.out⟩
  case round =>
    obtain ⟨k, hk, rfl, hsb⟩ := hrel
    by_cases hlt : k < n2
    · obtain ⟨p, hp⟩ : ∃ z, s.passes[k]? = some z := ⟨_, List.getElem?_eq_getElem (by rw [HL.out]; exact hlt)⟩
      obtain ⟨g1, o1, es1, rfl, _, hg1, ⟨q1, rfl, P1, p1, e1, rfl, hr1, hm3⟩, _, f1⟩ := HA.out.at hp
      obtain ⟨g2, o2, es2, rfl, _, hg2, ⟨q2, rfl, P2, p2, e2, rfl, hr2, hm4⟩, _, f2⟩ := HC.out.at hp
      obtain rfl : p1 = p2 := by rw [← hr1.len, ← hr2.len]
      have hp63 : p1 ≤ 9223372036854775807 := by unfold maxLen at hm3; omega
      have z1 : wr.cell? ⟨w.heap.size, 2, none⟩ = some (.slice (some ⟨g1, o1, none⟩) n2 c2) := hsb.1.cell 2
      have z2 : wr.cell? ⟨w.heap.size + 1, 2, none⟩ = some (.slice (some ⟨g2, o2, none⟩) n2 d2) := hsb.2.1.cell 2
      have i1 : wr.cell? ⟨g1, o1 + k * 2, none⟩ = some (.string p.name) := (hsb.2.2.cell hg1).trans (f1 0 _ rfl)
      have i2 : wr.cell? ⟨g1, o1 + k * 2 + 1, none⟩ = some (.slice P1 p1 e1) := (hsb.2.2.cell hg1).trans (f1 1 _ rfl)
      have j1 : wr.cell? ⟨g2, o2 + k * 2, none⟩ = some (.string p.name) := (hsb.2.2.cell hg2).trans (f2 0 _ rfl)
      have j2 : wr.cell? ⟨g2, o2 + k * 2 + 1, none⟩ = some (.slice P2 p1 e2) := (hsb.2.2.cell hg2).trans (f2 1 _ rfl)
      have HSB := Lib.hid hsb
      have HR1 := Lib.hid hr1
      have HR2 := Lib.hid hr2
      clear hsb hr1 hr2 f1 f2 hp
      go_upto_region 6 with fail
      go_cut [6, 7] (fun s6 s7 wx => ∃ g h, s6 = .pointer (some ⟨g, 0, none⟩) ∧ s7 = .pointer (some ⟨h, 0, none⟩) ∧ SpAt w #[.bool s.only?, .slice A1 n1 c1, .slice (some ⟨g1, o1, none⟩) n2 c2] #[.bool s.only?, .slice C1 m1 d1, .slice (some ⟨g2, o2, none⟩) n2 d2] g h #[.string p.name, .slice P1 p1 e1] #[.string p.name, .slice P2 p1 e2] wx)
      case first =>
        go_region_held_law (fun w' => w'.cell? ⟨w.heap.size, 2, none⟩ = some (.slice (some ⟨g1, o1, none⟩) n2 c2) ∧ w'.cell? ⟨w.heap.size + 1, 2, none⟩ = some (.slice (some ⟨g2, o2, none⟩) n2 d2) ∧ w'.cell? ⟨g1, o1 + k * 2, none⟩ = some (.string p.name) ∧ w'.cell? ⟨g1, o1 + k * 2 + 1, none⟩ = some (.slice P1 p1 e1) ∧ w'.cell? ⟨g2, o2 + k * 2, none⟩ = some (.string p.name) ∧ w'.cell? ⟨g2, o2 + k * 2 + 1, none⟩ = some (.slice P2 p1 e2)) (go_keep) (fail)
        all_goals
          go_wp2_with fail
          go_meet
          refine ⟨_, _, rfl, rfl, ?_⟩
          first
            | exact SpAt.drew (SbAt.two HSB.out _ _)
            | exact SpAt.drew (SpAt.swap (SbAt.two HSB.out _ _))
      case rest =>
        obtain ⟨g, h, rfl, rfl, hsp⟩ := hcut
        have t0 : wc.cell? ⟨g, 0, none⟩ = some (.string p.name) := hsp.2.1.cell 0
        have t1 : wc.cell? ⟨g, 1, none⟩ = some (.slice P1 p1 e1) := hsp.2.1.cell 1
        have t2 : wc.cell? ⟨h, 0, none⟩ = some (.string p.name) := hsp.2.2.cell 0
        have t3 : wc.cell? ⟨h, 1, none⟩ = some (.slice P2 p1 e2) := hsp.2.2.cell 1
        have HSP := Lib.hid hsp
        clear hsp HSB
        go_wp2_with fail
        go_loopw [64] (Sc2Rel w #[.bool s.only?, .slice A1 n1 c1, .slice (some ⟨g1, o1, none⟩) n2 c2] #[.bool s.only?, .slice C1 m1 d1, .slice (some ⟨g2, o2, none⟩) n2 d2] g h #[.string p.name, .slice P1 p1 e1] #[.string p.name, .slice P2 p1 e2] p1) (fun i _ => p1 - (intOf i).toNat)
        case atStart => exact ⟨0, Nat.zero_le _, rfl, HSP.out⟩
        case round =>
          obtain ⟨j, hj, rfl, hsq⟩ := hrel
          by_cases hlj : j < p1
          · obtain ⟨r, hr⟩ : ∃ z, p.rules[j]? = some z := ⟨_, List.getElem?_eq_getElem (by rw [HR1.out.len]; exact hlj)⟩
            obtain ⟨h1, q1, rs1, rfl, _, hh1, hrc1, _, fr1⟩ := HR1.out.at hr
            obtain ⟨h2, q2, rs2, rfl, _, hh2, hrc2, _, fr2⟩ := HR2.out.at hr
            have hrs := fun (w' : World) (hb : Below w.heap.size w w') => rule_same rs1 rs2 r w' X X' (hrc1.keep (Keeps.below hb (fun _ h _ => h))) (hrc2.keep (Keeps.below hb (fun _ h _ => h)))
            obtain ⟨_, _, _, a4, l4, y4, rfl, ⟨a1, l1, y1, rfl, _⟩, ⟨a2, l2, y2, rfl, _⟩, ⟨a3, l3, y3, rfl, _⟩, _⟩ := hrc1
            obtain ⟨_, _, _, b4, m4', z4', rfl, ⟨b1, m1', z1', rfl, _⟩, ⟨b2, m2', z2', rfl, _⟩, ⟨b3, m3', z3', rfl, _⟩, _⟩ := hrc2
            have HRS := Lib.hid hrs
            have HSQ := Lib.hid hsq
            have hsc : ∀ wx, SpAt w #[.bool s.only?, .slice A1 n1 c1, .slice (some ⟨g1, o1, none⟩) n2 c2] #[.bool s.only?, .slice C1 m1 d1, .slice (some ⟨g2, o2, none⟩) n2 d2] g h #[.string p.name, .slice (some ⟨h1, q1, none⟩) p1 e1] #[.string p.name, .slice (some ⟨h2, q2, none⟩) p1 e2] wx → (fun w' => w'.cell? ⟨g, 1, none⟩ = some (.slice (some ⟨h1, q1, none⟩) p1 e1) ∧ w'.cell? ⟨h, 1, none⟩ = some (.slice (some ⟨h2, q2, none⟩) p1 e2) ∧ w'.cell? ⟨h1, q1 + j * 7, none⟩ = some (.bool r.start) ∧ w'.cell? ⟨h1, q1 + j * 7 + 1, none⟩ = some (.bool r.fin) ∧ w'.cell? ⟨h1, q1 + j * 7 + 2, none⟩ = some (.slice a1 l1 y1) ∧ w'.cell? ⟨h1, q1 + j * 7 + 3, none⟩ = some (.slice a2 l2 y2) ∧ w'.cell? ⟨h1, q1 + j * 7 + 4, none⟩ = some (.slice a3 l3 y3) ∧ w'.cell? ⟨h1, q1 + j * 7 + 5, none⟩ = some (.slice a4 l4 y4) ∧ w'.cell? ⟨h1, q1 + j * 7 + 6, none⟩ = some (.int .i64 r.cursor) ∧ w'.cell? ⟨h2, q2 + j * 7, none⟩ = some (.bool r.start) ∧ w'.cell? ⟨h2, q2 + j * 7 + 1, none⟩ = some (.bool r.fin) ∧ w'.cell? ⟨h2, q2 + j * 7 + 2, none⟩ = some (.slice b1 m1' z1') ∧ w'.cell? ⟨h2, q2 + j * 7 + 3, none⟩ = some (.slice b2 m2' z2') ∧ w'.cell? ⟨h2, q2 + j * 7 + 4, none⟩ = some (.slice b3 m3' z3') ∧ w'.cell? ⟨h2, q2 + j * 7 + 5, none⟩ = some (.slice b4 m4' z4') ∧ w'.cell? ⟨h2, q2 + j * 7 + 6, none⟩ = some (.int .i64 r.cursor)) wx := by
              intro wx hs
              have c1 := fun (o : Nat) (u : Value) (hu : w.cell? ⟨h1, o, none⟩ = some u) => (hs.1.2.2.cell (p := ⟨h1, o, none⟩) hh1).trans hu
              have c2 := fun (o : Nat) (u : Value) (hu : w.cell? ⟨h2, o, none⟩ = some u) => (hs.1.2.2.cell (p := ⟨h2, o, none⟩) hh2).trans hu
              exact ⟨hs.2.1.cell 1, hs.2.2.cell 1, c1 _ _ (fr1 0 _ rfl), c1 _ _ (fr1 1 _ rfl), c1 _ _ (fr1 2 _ rfl), c1 _ _ (fr1 3 _ rfl), c1 _ _ (fr1 4 _ rfl), c1 _ _ (fr1 5 _ rfl), c1 _ _ (fr1 6 _ rfl), c2 _ _ (fr2 0 _ rfl), c2 _ _ (fr2 1 _ rfl), c2 _ _ (fr2 2 _ rfl), c2 _ _ (fr2 3 _ rfl), c2 _ _ (fr2 4 _ rfl), c2 _ _ (fr2 5 _ rfl), c2 _ _ (fr2 6 _ rfl)⟩
            have HSC := Lib.hid hsc
            clear hrs hsq hsc fr1 fr2 hr t0 t1 t2 t3
            go_upto_region 12 with fail
            go_cut [78] (fun s78 wx => s78 = .bool false ∧ SpAt w #[.bool s.only?, .slice A1 n1 c1, .slice (some ⟨g1, o1, none⟩) n2 c2] #[.bool s.only?, .slice C1 m1 d1, .slice (some ⟨g2, o2, none⟩) n2 d2] g h #[.string p.name, .slice (some ⟨h1, q1, none⟩) p1 e1] #[.string p.name, .slice (some ⟨h2, q2, none⟩) p1 e2] wx)
            case first =>
              go_region_held_law (fun w' => w'.cell? ⟨g, 1, none⟩ = some (.slice (some ⟨h1, q1, none⟩) p1 e1) ∧ w'.cell? ⟨h, 1, none⟩ = some (.slice (some ⟨h2, q2, none⟩) p1 e2) ∧ w'.cell? ⟨h1, q1 + j * 7, none⟩ = some (.bool r.start) ∧ w'.cell? ⟨h1, q1 + j * 7 + 1, none⟩ = some (.bool r.fin) ∧ w'.cell? ⟨h1, q1 + j * 7 + 2, none⟩ = some (.slice a1 l1 y1) ∧ w'.cell? ⟨h1, q1 + j * 7 + 3, none⟩ = some (.slice a2 l2 y2) ∧ w'.cell? ⟨h1, q1 + j * 7 + 4, none⟩ = some (.slice a3 l3 y3) ∧ w'.cell? ⟨h1, q1 + j * 7 + 5, none⟩ = some (.slice a4 l4 y4) ∧ w'.cell? ⟨h1, q1 + j * 7 + 6, none⟩ = some (.int .i64 r.cursor) ∧ w'.cell? ⟨h2, q2 + j * 7, none⟩ = some (.bool r.start) ∧ w'.cell? ⟨h2, q2 + j * 7 + 1, none⟩ = some (.bool r.fin) ∧ w'.cell? ⟨h2, q2 + j * 7 + 2, none⟩ = some (.slice b1 m1' z1') ∧ w'.cell? ⟨h2, q2 + j * 7 + 3, none⟩ = some (.slice b2 m2' z2') ∧ w'.cell? ⟨h2, q2 + j * 7 + 4, none⟩ = some (.slice b3 m3' z3') ∧ w'.cell? ⟨h2, q2 + j * 7 + 5, none⟩ = some (.slice b4 m4' z4') ∧ w'.cell? ⟨h2, q2 + j * 7 + 6, none⟩ = some (.int .i64 r.cursor))
                (first
                  | exact HSC.out _ HSR.out
                  | exact HSC.out _ (SpAt.drew HSQ.out))
                (first
                  | (go_simp
                     go_at_call 19
                     refine (HRS.out _ (SpAt.drew HSQ.out).1.2.2).mono ?_
                     rintro e w9 ⟨rfl, hb9⟩
                     have HSR := Lib.hid (SpAt.below (SpAt.drew HSQ.out) hb9)
                     clear hb9
                     dsimp only))
              all_goals
                go_simp
                go_wp2_with fail
                go_meet
                exact ⟨rfl, HSR.out⟩
            case rest =>
              obtain ⟨rfl, hsr⟩ := hcut
              have HSR := Lib.hid hsr
              clear hsr
              go_wp2_with fail
              exact ⟨⟨j + 1, by omega, by go_num, HSR.out⟩, by simp [intOf]; omega⟩
          · obtain rfl : j = p1 := by omega
            have HSQ := Lib.hid hsq
            clear hsq
            go_wp2_with fail
            exact ⟨⟨k + 1, by omega, by go_num, HSQ.out.1⟩, by simp [intOf]; omega⟩
    · obtain rfl : k = n2 := by omega
      go_wp2_with fail
      go_ret
      exact ⟨rfl, hsb.2.2⟩

end Go.Proofs.Ythcjiainpaebfaa
