/- SameS + SameScript + ReadyP + ReadySt -/
import Derived.Test.YthnhbcohfoodlaaGreatDoorZw16
import Derived.Test.YthnhbcohfoodlaaGreatDoorZw6
import Derived.Deep.RegionHeldLaw
import Derived.Deep.DeepCutAuto
import Derived.BigRegion
set_option maxHeartbeats 6400000
set_option maxRecDepth 100000
namespace Go.Proofs.YthnhbcohfoodlaaGreatDoor
open Go.RowKit
theorem rB (u1 u2 : Value) (ll : List af) (w : World) (X X' : Nat → Prop) (hx : mw w X ll u1) (hy : mw w X' ll u2) :
    Calls Tryz.prog 126 #[u1, u2] w fun e w' => e = .returned (.bool true) ∧ ∃ k, w' = w.drewN k := by
 obtain ⟨A, n, c, rfl, hx, hn⟩ := hx;obtain ⟨C, m, d, rfl, hy, _⟩ := hy;obtain rfl : n = m := (by rw [← hx.len, ← hy.len]);have hn2 : n ≤ 9223372036854775807 := (by unfold maxLen at hn; omega);have HX := Lib.hid hx;have HY := Lib.hid hy;have HL := Lib.hid hx.len;clear hx hy hn;go_enter Tryz.func126, Tryz.ntmps126;go_wp2;go_loopw [13] (fun i wr => ∃ k q : Nat, k ≤ n ∧ i = .int .i64 k ∧ wr = w.drewN q) (fun i _ => n - (intOf i).toNat);(case atStart => exact ⟨0, 0, Nat.zero_le _, rfl, rfl⟩);obtain ⟨k, q, hk, rfl, Kj⟩ := hrel;by_cases hlt : k < n
 ·obtain ⟨s, hz⟩ : ∃ z, ll[k]? = some z := ⟨_, List.getElem?_eq_getElem (by rw [HL.out]; exact hlt)⟩;obtain ⟨b1, o1, Qw, rfl, _, bt, ⟨v1, rfl, A1, n1, e1, rfl, zj, Ve⟩, _, g1⟩ := HX.out.at hz;obtain ⟨b2, o2, Pf, rfl, _, bn, ⟨v2, rfl, A2, n2, e2, rfl, iT, _⟩, _, g2⟩ := HY.out.at hz;have c0 := g1 0 _ rfl;have d0 := g2 0 _ rfl;simp only [Nat.mul_one, Nat.add_zero] at c0 d0;replace c0 : wr.cell? ⟨b1, o1 + k, none⟩ = some (.slice A1 n1 e1) := (by rw [Kj]; exact c0);replace d0 : wr.cell? ⟨b2, o2 + k, none⟩ = some (.slice A2 n2 e2) := (by rw [Kj]; exact d0);have HC := Lib.hid (fun q' => show Calls Tryz.prog 12 #[.slice A1 n1 e1, .slice A2 n2 e2] (wr.drewN q') (fun e w' => e = .returned (.bool true) ∧ ∃ k, w' = (wr.drewN q').drewN k) from by rw [Kj]; exact Bs A1 A2 n1 n2 e1 e2 s ((w.drewN q).drewN q') w.heap.size w.heap.size (by unfold maxLen at Ve; omega) (zj.rd (fun _ _ h => h)) (iT.rd (fun _ _ h => h)));have HW := Lib.hid Kj;clear hz zj iT g1 g2 Kj;go_wp2;go_quiet ((go_at_call 12; exact Calls.quiet_of (HC.out _)));go_wp2;refine ⟨⟨k + 1, q + nq, by omega, by go_num, by rw [HW.out, World.drewN_drewN]⟩, by simp [intOf]; omega⟩
 obtain rfl : k = n := (by omega);have HW := Lib.hid Kj;clear Kj;go_wp2;go_ret;exact ⟨rfl, q, HW.out⟩
theorem Fg (cs ds : List Value) (r : eB) (w : World) (X X' : Nat → Prop) (hx : eJ w X r cs) (hy : eJ w X' r ds) :
    Calls Tryz.prog 74 #[.agg cs.toArray, .agg ds.toArray] w fun e w' => e = .returned (.bool true) ∧ Below w.heap.size w w' := by
 obtain ⟨u1, u2, u3, A, n, c, rfl, a1, a2, a3, a4, hn⟩ := hx;obtain ⟨v1, v2, v3, C, m, d, rfl, b1, b2, b3, b4, hm⟩ := hy;have hs1 := fun (w' : World) (hb : Below w.heap.size w w') => rB u1 v1 r.before w' X X' (a1.keep (ag.below hb (fun _ h _ => h))) (b1.keep (ag.below hb (fun _ h _ => h))) |>.mono (fun e w'' ⟨he, k, hk⟩ => (⟨he, hk ▸ below_drewN (Below.refl _ _) k⟩ : e = Ending.returned (.bool true) ∧ Below w'.heap.size w' w''));have Jq := fun (w' : World) (hb : Below w.heap.size w w') => rB u2 v2 r.source w' X X' (a2.keep (ag.below hb (fun _ h _ => h))) (b2.keep (ag.below hb (fun _ h _ => h))) |>.mono (fun e w'' ⟨he, k, hk⟩ => (⟨he, hk ▸ below_drewN (Below.refl _ _) k⟩ : e = Ending.returned (.bool true) ∧ Below w'.heap.size w' w''));have Ov := fun (w' : World) (hb : Below w.heap.size w w') => rB u3 v3 r.after w' X X' (a3.keep (ag.below hb (fun _ h _ => h))) (b3.keep (ag.below hb (fun _ h _ => h))) |>.mono (fun e w'' ⟨he, k, hk⟩ => (⟨he, hk ▸ below_drewN (Below.refl _ _) k⟩ : e = Ending.returned (.bool true) ∧ Below w'.heap.size w' w''));have hs4 := fun (w' : World) (hb : Below w.heap.size w w') => JO A C n m c d r.target r.target w' (by unfold maxLen at hn; omega) ((a4.keep (ag.below (X' := X) hb (fun _ h _ => h))).rd (fun _ _ h => h)) ((b4.keep (ag.below (X' := X') hb (fun _ h _ => h))).rd (fun _ _ h => h));obtain ⟨P1, p1, q1, rfl, _⟩ := a1;obtain ⟨P2, p2, q2, rfl, _⟩ := a2;obtain ⟨P3, p3, q3, rfl, _⟩ := a3;obtain ⟨Q1, r1, s1, rfl, _⟩ := b1;obtain ⟨Q2, r2, s2, rfl, _⟩ := b2;obtain ⟨Q3, r3, s3, rfl, _⟩ := b3;have uM := Lib.hid hs1;have Ke := Lib.hid Jq;have NY := Lib.hid Ov;have Ty := Lib.hid hs4;have V4 := fun (w' : World) (hb : Below w.heap.size w w') => (Ty.out w' hb).mono (fun e w'' ⟨he, k, hk⟩ => (⟨he, hk ▸ below_drewN (Below.refl _ _) k⟩ : e = Ending.returned (.bool (r.target == r.target)) ∧ Below w'.heap.size w' w''));have Oo := Lib.hid V4
 have hk0 := au.alloc (au.new w 121 #[.bool r.start, .bool r.fin, .slice P1 p1 q1, .slice P2 p2 q2, .slice P3 p3 q3, .slice A n c, .int .i64 r.aa]) (.cells #[.bool r.start, .bool r.fin, .slice Q1 r1 s1, .slice Q2 r2 s2, .slice Q3 r3 s3, .slice C m d, .int .i64 r.aa] 121);have hj0 := au.new (w.alloc (.cells #[.bool r.start, .bool r.fin, .slice P1 p1 q1, .slice P2 p2 q2, .slice P3 p3 q3, .slice A n c, .int .i64 r.aa] 121)) 121 #[.bool r.start, .bool r.fin, .slice Q1 r1 s1, .slice Q2 r2 s2, .slice Q3 r3 s3, .slice C m d, .int .i64 r.aa];rw [show (w.alloc (.cells #[.bool r.start, .bool r.fin, .slice P1 p1 q1, .slice P2 p2 q2, .slice P3 p3 q3, .slice A n c, .int .i64 r.aa] 121)).heap.size = w.heap.size + 1 by simp] at hj0;have ia := Lib.hid hk0;have Yi := Lib.hid hj0;have hb0 := ((Below.refl w.heap.size w).alloc (Nat.le_refl _) (.cells #[.bool r.start, .bool r.fin, .slice P1 p1 q1, .slice P2 p2 q2, .slice P3 p3 q3, .slice A n c, .int .i64 r.aa] 121)).alloc (by simp) (.cells #[.bool r.start, .bool r.fin, .slice Q1 r1 s1, .slice Q2 r2 s2, .slice Q3 r3 s3, .slice C m d, .int .i64 r.aa] 121);have jR := Lib.hid hb0;clear hs1 Jq Ov hs4 a4 b4 hb0 V4 hk0 hj0;go_enter Tryz.func74, Tryz.ntmps74;go_wp2_with fail;refine (uM.out _ jR.out).mono ?_;rintro e w1 ⟨rfl, hb⟩;have cy := Lib.hid (jR.out.trans (hb.mono jR.out.size));have tI := Lib.hid (au.below ia.out hb ia.out.lt);have OC := Lib.hid (au.below Yi.out hb Yi.out.lt);have x1 : w1.cell? ⟨w.heap.size, 3, none⟩ = some (.slice P2 p2 q2) := tI.out.cell 3;have y1 : w1.cell? ⟨w.heap.size + 1, 3, none⟩ = some (.slice Q2 r2 s2) := OC.out.cell 3;clear hb;go_wp2_with fail;refine (Ke.out _ cy.out).mono ?_;rintro e w2 ⟨rfl, hb⟩
 have cE := Lib.hid (cy.out.trans (hb.mono cy.out.size));have EE := Lib.hid (au.below tI.out hb tI.out.lt);have VR := Lib.hid (au.below OC.out hb OC.out.lt);have x2 : w2.cell? ⟨w.heap.size, 4, none⟩ = some (.slice P3 p3 q3) := EE.out.cell 4;have y2 : w2.cell? ⟨w.heap.size + 1, 4, none⟩ = some (.slice Q3 r3 s3) := VR.out.cell 4;clear hb;go_wp2_with fail;refine (NY.out _ cE.out).mono ?_;rintro e w3 ⟨rfl, hb⟩;have dQ := Lib.hid (cE.out.trans (hb.mono cE.out.size));have Kg := Lib.hid (au.below EE.out hb EE.out.lt);have jy := Lib.hid (au.below VR.out hb VR.out.lt);have x3 : w3.cell? ⟨w.heap.size, 5, none⟩ = some (.slice A n c) := Kg.out.cell 5;have y3 : w3.cell? ⟨w.heap.size + 1, 5, none⟩ = some (.slice C m d) := jy.out.cell 5;clear hb;go_wp2_with fail;refine (Oo.out _ dQ.out).mono ?_;rintro e w4 ⟨rfl, hb⟩;have iW := Lib.hid (dQ.out.trans (hb.mono dQ.out.size));have SK := Lib.hid (au.below Kg.out hb Kg.out.lt);have Ca := Lib.hid (au.below jy.out hb jy.out.lt);clear hb;go_wp2_with fail;go_ret;exact ⟨e9 (by simp), iW.out⟩
def vK (w : World) (cs ds : Array Value) (wx : World) : Prop := au wx w.heap.size 53 cs ∧ au wx (w.heap.size + 1) 53 ds ∧ Below w.heap.size w wx
theorem vK.below {w wx w2 : World} {cs ds : Array Value} (h : vK w cs ds wx) (hb : Below wx.heap.size wx w2) : vK w cs ds w2 :=
  ⟨au.below h.1 hb h.1.lt, au.below h.2.1 hb h.2.1.lt, h.2.2.trans (hb.mono h.2.2.size)⟩
def kX (w : World) (cs ds : Array Value) (g h : Nat) (a b : Array Value) (wx : World) : Prop := vK w cs ds wx ∧ au wx g 118 a ∧ au wx h 118 b
theorem kX.below {w wx w2 : World} {cs ds a b : Array Value} {g h : Nat} (q : kX w cs ds g h a b wx) (hb : Below wx.heap.size wx w2) : kX w cs ds g h a b w2 :=
  ⟨q.1.below hb, au.below q.2.1 hb q.2.1.lt, au.below q.2.2 hb q.2.2.lt⟩
theorem kX.drew {w wx : World} {cs ds a b : Array Value} {g h : Nat} (q : kX w cs ds g h a b wx) : kX w cs ds g h a b wx.drew := ⟨⟨q.1.1, q.1.2.1, q.1.2.2.drew⟩, q.2.1, q.2.2⟩
def NG (w : World) (cs ds : Array Value) (g h : Nat) (a b : Array Value) (n : Nat) (i : Value) (wr : World) : Prop := ∃ k : Nat, k ≤ n ∧ i = .int .i64 k ∧ kX w cs ds g h a b wr
theorem vK.two {w wx : World} {cs ds : Array Value} (q : vK w cs ds wx) (a b : Array Value) :
    kX w cs ds wx.heap.size (wx.heap.size + 1) a b ((wx.alloc (.cells a 118)).alloc (.cells b 118)) := by
 have h1 := ((Below.refl wx.heap.size wx).alloc (Nat.le_refl _) (.cells a 118)).alloc (by simp) (.cells b 118);refine ⟨q.below h1, au.alloc (au.new _ _ _) _, ?_⟩;have := au.new (wx.alloc (.cells a 118)) 118 b;rwa [show (wx.alloc (.cells a 118)).heap.size = wx.heap.size + 1 by simp] at this
theorem kX.swap {w wx : World} {cs ds a b : Array Value} {g h : Nat} (q : kX w cs ds g h a b wx) : kX w cs ds h g b a wx := ⟨q.1, q.2.2, q.2.1⟩
def Pg (w : World) (cs ds : Array Value) (n : Nat) (i : Value) (wr : World) : Prop := ∃ k : Nat, k ≤ n ∧ i = .int .i64 k ∧ vK w cs ds wr
theorem zA (cs ds : List Value) (s : nP) (w : World) (X X' : Nat → Prop) (hx : eK w X s cs) (hy : eK w X' s ds) :
    Calls Tryz.prog 33 #[.agg cs.toArray, .agg ds.toArray] w fun e w' => e = .returned (.bool true) ∧ Below w.heap.size w w' := by
 obtain ⟨u1, u2, rfl, ⟨A1, n1, c1, rfl, a1, Ve⟩, ⟨A2, n2, c2, rfl, a2, hm2⟩⟩ := hx;obtain ⟨v1, v2, rfl, ⟨C1, m1, d1, rfl, b1, _⟩, ⟨C2, m2, d2, rfl, b2, _⟩⟩ := hy;obtain rfl : n2 = m2 := (by rw [← a2.len, ← b2.len]);have hs1 := fun (w' : World) (hb : Below w.heap.size w w') => (Bs A1 C1 n1 m1 c1 d1 s.only w' w'.heap.size w'.heap.size (by unfold maxLen at Ve; omega) ((a1.keep (ag.below (X' := X) hb (fun _ h _ => h))).rd (fun _ _ h => h)) ((b1.keep (ag.below (X' := X') hb (fun _ h _ => h))).rd (fun _ _ h => h))).mono (fun e w'' ⟨he, k, hk⟩ => (⟨he, hk ▸ below_drewN (Below.refl _ _) k⟩ : e = Ending.returned (.bool true) ∧ Below w'.heap.size w' w''));have Lp : n2 ≤ 9223372036854775807 := (by unfold maxLen at hm2; omega);have HA := Lib.hid a2;have HC := Lib.hid b2;have HL := Lib.hid a2.len;have uM := Lib.hid hs1;have hk0 := au.alloc (au.new w 53 #[.bool s.only?, .slice A1 n1 c1, .slice A2 n2 c2]) (.cells #[.bool s.only?, .slice C1 m1 d1, .slice C2 n2 d2] 53);have hj0 := au.new (w.alloc (.cells #[.bool s.only?, .slice A1 n1 c1, .slice A2 n2 c2] 53)) 53 #[.bool s.only?, .slice C1 m1 d1, .slice C2 n2 d2];rw [show (w.alloc (.cells #[.bool s.only?, .slice A1 n1 c1, .slice A2 n2 c2] 53)).heap.size = w.heap.size + 1 by simp] at hj0;have jR := Lib.hid (show vK w _ _ _ from ⟨hk0, hj0, ((Below.refl w.heap.size w).alloc (Nat.le_refl _) _).alloc (by simp) _⟩);clear a1 a2 b1 b2 hs1 hk0 hj0;go_enter Tryz.func33, Tryz.ntmps33;go_wp2_with fail;refine (uM.out _ jR.out.2.2).mono ?_;rintro e w1 ⟨rfl, bt⟩;have cy := Lib.hid (vK.below jR.out bt);have x1 : w1.cell? ⟨w.heap.size, 2, none⟩ = some (.slice A2 n2 c2) := cy.out.1.cell 2;have y1 : w1.cell? ⟨w.heap.size + 1, 2, none⟩ = some (.slice C2 n2 d2) := cy.out.2.1.cell 2;clear bt;go_wp2_with fail
 go_loopw [34] (Pg w #[.bool s.only?, .slice A1 n1 c1, .slice A2 n2 c2] #[.bool s.only?, .slice C1 m1 d1, .slice C2 n2 d2] n2) (fun i _ => n2 - (intOf i).toNat);(case atStart => exact ⟨0, Nat.zero_le _, rfl, cy.out⟩);obtain ⟨k, hk, rfl, Lj⟩ := hrel;by_cases hlt : k < n2
 ·obtain ⟨p, hp⟩ : ∃ z, s.passes[k]? = some z := ⟨_, List.getElem?_eq_getElem (by rw [HL.out]; exact hlt)⟩;obtain ⟨g1, o1, es1, rfl, _, hg1, ⟨q1, rfl, P1, p1, e1, rfl, zj, hm3⟩, _, f1⟩ := HA.out.at hp;obtain ⟨g2, o2, es2, rfl, _, Bf, ⟨q2, rfl, P2, p2, e2, rfl, iT, hm4⟩, _, f2⟩ := HC.out.at hp;obtain rfl : p1 = p2 := (by rw [← zj.len, ← iT.len]);have aai : p1 ≤ 9223372036854775807 := (by unfold maxLen at hm3; omega);have z1 : wr.cell? ⟨w.heap.size, 2, none⟩ = some (.slice (some ⟨g1, o1, none⟩) n2 c2) := Lj.1.cell 2;have z2 : wr.cell? ⟨w.heap.size + 1, 2, none⟩ = some (.slice (some ⟨g2, o2, none⟩) n2 d2) := Lj.2.1.cell 2;have i1 : wr.cell? ⟨g1, o1 + k * 2, none⟩ = some (.string p.name) := (Lj.2.2.cell hg1).trans (f1 0 _ rfl);have i2 : wr.cell? ⟨g1, o1 + k * 2 + 1, none⟩ = some (.slice P1 p1 e1) := (Lj.2.2.cell hg1).trans (f1 1 _ rfl);have j1 : wr.cell? ⟨g2, o2 + k * 2, none⟩ = some (.string p.name) := (Lj.2.2.cell Bf).trans (f2 0 _ rfl);have j2 : wr.cell? ⟨g2, o2 + k * 2 + 1, none⟩ = some (.slice P2 p1 e2) := (Lj.2.2.cell Bf).trans (f2 1 _ rfl);have TB := Lib.hid Lj;have nE := Lib.hid zj;have qH := Lib.hid iT;clear Lj zj iT f1 f2 hp;go_upto_region 6 with fail;go_cut [6, 7] (fun s6 s7 wx => ∃ g h, s6 = .pointer (some ⟨g, 0, none⟩) ∧ s7 = .pointer (some ⟨h, 0, none⟩) ∧ kX w #[.bool s.only?, .slice A1 n1 c1, .slice (some ⟨g1, o1, none⟩) n2 c2] #[.bool s.only?, .slice C1 m1 d1, .slice (some ⟨g2, o2, none⟩) n2 d2] g h #[.string p.name, .slice P1 p1 e1] #[.string p.name, .slice P2 p1 e2] wx);case first =>
   go_region_held_law (fun w' => w'.cell? ⟨w.heap.size, 2, none⟩ = some (.slice (some ⟨g1, o1, none⟩) n2 c2) ∧ w'.cell? ⟨w.heap.size + 1, 2, none⟩ = some (.slice (some ⟨g2, o2, none⟩) n2 d2) ∧ w'.cell? ⟨g1, o1 + k * 2, none⟩ = some (.string p.name) ∧ w'.cell? ⟨g1, o1 + k * 2 + 1, none⟩ = some (.slice P1 p1 e1) ∧ w'.cell? ⟨g2, o2 + k * 2, none⟩ = some (.string p.name) ∧ w'.cell? ⟨g2, o2 + k * 2 + 1, none⟩ = some (.slice P2 p1 e2)) (go_keep) (fail)
   all_goals
     go_wp2_with fail
     go_meet
     refine ⟨_, _, rfl, rfl, ?_⟩
     first
       | exact kX.drew (vK.two TB.out _ _)
       | exact kX.drew (kX.swap (vK.two TB.out _ _))
  obtain ⟨g, h, rfl, rfl, hsp⟩ := hcut;have t0 : wc.cell? ⟨g, 0, none⟩ = some (.string p.name) := hsp.2.1.cell 0;have t1 : wc.cell? ⟨g, 1, none⟩ = some (.slice P1 p1 e1) := hsp.2.1.cell 1;have t2 : wc.cell? ⟨h, 0, none⟩ = some (.string p.name) := hsp.2.2.cell 0;have t3 : wc.cell? ⟨h, 1, none⟩ = some (.slice P2 p1 e2) := hsp.2.2.cell 1;have qR := Lib.hid hsp;clear hsp TB;go_wp2_with fail;go_loopw [64] (NG w #[.bool s.only?, .slice A1 n1 c1, .slice (some ⟨g1, o1, none⟩) n2 c2] #[.bool s.only?, .slice C1 m1 d1, .slice (some ⟨g2, o2, none⟩) n2 d2] g h #[.string p.name, .slice P1 p1 e1] #[.string p.name, .slice P2 p1 e2] p1) (fun i _ => p1 - (intOf i).toNat);(case atStart => exact ⟨0, Nat.zero_le _, rfl, qR.out⟩);obtain ⟨j, hj, rfl, Od⟩ := hrel;by_cases Y6 : j < p1
  ·obtain ⟨r, hr⟩ : ∃ z, p.rules[j]? = some z := ⟨_, List.getElem?_eq_getElem (by rw [nE.out.len]; exact Y6)⟩;obtain ⟨h1, q1, rs1, rfl, _, Xs, Rs, _, LD⟩ := nE.out.at hr;obtain ⟨h2, q2, ZC, rfl, _, J7, PG, _, Ms⟩ := qH.out.at hr;have OQ := fun (w' : World) (hb : Below w.heap.size w w') => Fg rs1 ZC r w' X X' (Rs.keep (ag.below hb (fun _ h _ => h))) (PG.keep (ag.below hb (fun _ h _ => h)));obtain ⟨_, _, _, a4, l4, y4, rfl, ⟨a1, l1, y1, rfl, _⟩, ⟨a2, l2, y2, rfl, _⟩, ⟨a3, l3, y3, rfl, _⟩, _⟩ := Rs;obtain ⟨_, _, _, b4, Ww, WW, rfl, ⟨b1, V6, WN, rfl, _⟩, ⟨b2, WQ, XJ, rfl, _⟩, ⟨b3, Wg, Wu, rfl, _⟩, _⟩ := PG;have wv := Lib.hid OQ;have Qn := Lib.hid Od;have hsc : ∀ wx, kX w #[.bool s.only?, .slice A1 n1 c1, .slice (some ⟨g1, o1, none⟩) n2 c2] #[.bool s.only?, .slice C1 m1 d1, .slice (some ⟨g2, o2, none⟩) n2 d2] g h #[.string p.name, .slice (some ⟨h1, q1, none⟩) p1 e1] #[.string p.name, .slice (some ⟨h2, q2, none⟩) p1 e2] wx → (fun w' => w'.cell? ⟨g, 1, none⟩ = some (.slice (some ⟨h1, q1, none⟩) p1 e1) ∧ w'.cell? ⟨h, 1, none⟩ = some (.slice (some ⟨h2, q2, none⟩) p1 e2) ∧ w'.cell? ⟨h1, q1 + j * 7, none⟩ = some (.bool r.start) ∧ w'.cell? ⟨h1, q1 + j * 7 + 1, none⟩ = some (.bool r.fin) ∧ w'.cell? ⟨h1, q1 + j * 7 + 2, none⟩ = some (.slice a1 l1 y1) ∧ w'.cell? ⟨h1, q1 + j * 7 + 3, none⟩ = some (.slice a2 l2 y2) ∧ w'.cell? ⟨h1, q1 + j * 7 + 4, none⟩ = some (.slice a3 l3 y3) ∧ w'.cell? ⟨h1, q1 + j * 7 + 5, none⟩ = some (.slice a4 l4 y4) ∧ w'.cell? ⟨h1, q1 + j * 7 + 6, none⟩ = some (.int .i64 r.aa) ∧ w'.cell? ⟨h2, q2 + j * 7, none⟩ = some (.bool r.start) ∧ w'.cell? ⟨h2, q2 + j * 7 + 1, none⟩ = some (.bool r.fin) ∧ w'.cell? ⟨h2, q2 + j * 7 + 2, none⟩ = some (.slice b1 V6 WN) ∧ w'.cell? ⟨h2, q2 + j * 7 + 3, none⟩ = some (.slice b2 WQ XJ) ∧ w'.cell? ⟨h2, q2 + j * 7 + 4, none⟩ = some (.slice b3 Wg Wu) ∧ w'.cell? ⟨h2, q2 + j * 7 + 5, none⟩ = some (.slice b4 Ww WW) ∧ w'.cell? ⟨h2, q2 + j * 7 + 6, none⟩ = some (.int .i64 r.aa)) wx := by
    intro wx hs;have c1 := fun (o : Nat) (u : Value) (hu : w.cell? ⟨h1, o, none⟩ = some u) => (hs.1.2.2.cell (p := ⟨h1, o, none⟩) Xs).trans hu;have c2 := fun (o : Nat) (u : Value) (hu : w.cell? ⟨h2, o, none⟩ = some u) => (hs.1.2.2.cell (p := ⟨h2, o, none⟩) J7).trans hu;exact ⟨hs.2.1.cell 1, hs.2.2.cell 1, c1 _ _ (LD 0 _ rfl), c1 _ _ (LD 1 _ rfl), c1 _ _ (LD 2 _ rfl), c1 _ _ (LD 3 _ rfl), c1 _ _ (LD 4 _ rfl), c1 _ _ (LD 5 _ rfl), c1 _ _ (LD 6 _ rfl), c2 _ _ (Ms 0 _ rfl), c2 _ _ (Ms 1 _ rfl), c2 _ _ (Ms 2 _ rfl), c2 _ _ (Ms 3 _ rfl), c2 _ _ (Ms 4 _ rfl), c2 _ _ (Ms 5 _ rfl), c2 _ _ (Ms 6 _ rfl)⟩
   have Wi := Lib.hid hsc;clear OQ Od hsc LD Ms hr t0 t1 t2 t3;go_upto_region 12 with fail;go_cut [78] (fun ZT wx => ZT = .bool false ∧ kX w #[.bool s.only?, .slice A1 n1 c1, .slice (some ⟨g1, o1, none⟩) n2 c2] #[.bool s.only?, .slice C1 m1 d1, .slice (some ⟨g2, o2, none⟩) n2 d2] g h #[.string p.name, .slice (some ⟨h1, q1, none⟩) p1 e1] #[.string p.name, .slice (some ⟨h2, q2, none⟩) p1 e2] wx);case first =>
    go_region_held_law (fun w' => w'.cell? ⟨g, 1, none⟩ = some (.slice (some ⟨h1, q1, none⟩) p1 e1) ∧ w'.cell? ⟨h, 1, none⟩ = some (.slice (some ⟨h2, q2, none⟩) p1 e2) ∧ w'.cell? ⟨h1, q1 + j * 7, none⟩ = some (.bool r.start) ∧ w'.cell? ⟨h1, q1 + j * 7 + 1, none⟩ = some (.bool r.fin) ∧ w'.cell? ⟨h1, q1 + j * 7 + 2, none⟩ = some (.slice a1 l1 y1) ∧ w'.cell? ⟨h1, q1 + j * 7 + 3, none⟩ = some (.slice a2 l2 y2) ∧ w'.cell? ⟨h1, q1 + j * 7 + 4, none⟩ = some (.slice a3 l3 y3) ∧ w'.cell? ⟨h1, q1 + j * 7 + 5, none⟩ = some (.slice a4 l4 y4) ∧ w'.cell? ⟨h1, q1 + j * 7 + 6, none⟩ = some (.int .i64 r.aa) ∧ w'.cell? ⟨h2, q2 + j * 7, none⟩ = some (.bool r.start) ∧ w'.cell? ⟨h2, q2 + j * 7 + 1, none⟩ = some (.bool r.fin) ∧ w'.cell? ⟨h2, q2 + j * 7 + 2, none⟩ = some (.slice b1 V6 WN) ∧ w'.cell? ⟨h2, q2 + j * 7 + 3, none⟩ = some (.slice b2 WQ XJ) ∧ w'.cell? ⟨h2, q2 + j * 7 + 4, none⟩ = some (.slice b3 Wg Wu) ∧ w'.cell? ⟨h2, q2 + j * 7 + 5, none⟩ = some (.slice b4 Ww WW) ∧ w'.cell? ⟨h2, q2 + j * 7 + 6, none⟩ = some (.int .i64 r.aa))
      (first
        | exact Wi.out _ Ou.out
        | exact Wi.out _ (kX.drew Qn.out))
      (first
        | (go_simp
           go_at_call 74
           refine (wv.out _ (kX.drew Qn.out).1.2.2).mono ?_
           rintro e w9 ⟨rfl, dn⟩
           have Ou := Lib.hid (kX.below (kX.drew Qn.out) dn)
           clear dn
           dsimp only))
    all_goals
      go_simp
      go_wp2_with fail
      go_meet
      exact ⟨rfl, Ou.out⟩
   obtain ⟨rfl, yp⟩ := hcut;have Ou := Lib.hid yp;clear yp;go_wp2_with fail;exact ⟨⟨j + 1, by omega, by go_num, Ou.out⟩, by simp [intOf]; omega⟩
  obtain rfl : j = p1 := (by omega);have Qn := Lib.hid Od;clear Od;go_wp2_with fail;exact ⟨⟨k + 1, by omega, by go_num, Qn.out.1⟩, by simp [intOf]; omega⟩
 obtain rfl : k = n2 := (by omega);go_wp2_with fail;go_ret;exact ⟨rfl, Lj.2.2⟩
structure MI where
  some? : Bool
  only : af
  ps : List fk
  a : List eB
def gj : List eB → List fk
  | [] => []
  | x :: r => [⟨⟨#[]⟩, x :: r⟩]
def dO (s : ByteArray) : ByteArray := if s = jI then jH else if s = jH then jI else uO
def iH (back : Bool) (l : List ay) (i : Nat) (p : ay) (s : MI) : Except (Int × Int) MI :=
  if p.kind = 1 then (match fD (l.take i) p.name with
    | some _ => .error (7, i)
    | none => .ok s)
  else if p.kind = 3 then (if s.some? = true then .error (5, i) else .ok ⟨true, p.set, s.ps, s.a⟩)
  else if p.kind = 4 then .ok ⟨s.some?, s.only, s.ps ++ gj s.a ++ [⟨if back = true then dO p.name else p.name, []⟩], []⟩
  else match eM (l.take i) p.left p.right, eM (l.take i) p.right p.left with
    | some x, some y => .ok (if (back = true ∧ p.dir = 1) ∨ (back = false ∧ p.dir = 2) then s else ⟨s.some?, s.only, s.ps, s.a ++ [if back = true then y else x]⟩)
    | _, _ => .error (7, i)
def dz (back : Bool) (l : List ay) : Nat → Except (Int × Int) MI
  | 0 => .ok ⟨false, [], [], []⟩
  | k + 1 => match dz back l k with
    | .error e => .error e
    | .ok s => match l[k]? with
      | some p => iH back l k p s
      | none => .ok s
def jY : nP := ⟨false, [], []⟩
def ct (back : Bool) (l : List ay) : nP × (Int × Int) :=
  if (bN l).1 ≠ 0 then (jY, bN l) else match dz back l l.length with
    | .error e => (jY, e)
    | .ok s => (⟨s.some?, s.only, if back = true then (s.ps ++ gj s.a).reverse else s.ps ++ gj s.a⟩, (0, 0))
theorem kj {back : Bool} {l : List ay} {k : Nat} {p : ay} {s : MI} (h : dz back l k = .ok s) (hp : l[k]? = some p) : dz back l (k + 1) = iH back l k p s := by
 rw [dz, h];simp only [hp]
theorem zn {back : Bool} {l : List ay} {k : Nat} {e : Int × Int} (h : dz back l k = .error e) : ∀ m, k ≤ m → dz back l m = .error e := by
 intro m hm;induction m with
 | zero =>
  obtain rfl : k = 0 := (by omega);exact h
 | succ m ih =>
  rcases Nat.lt_or_ge m k with h1 | h1
  ·obtain rfl : k = m + 1 := (by omega);exact h
  rw [dz, ih h1]
theorem jG {back : Bool} {l : List ay} (h : (bN l).1 ≠ 0) : ct back l = (jY, bN l) := by
 unfold ct;rw [if_pos h]
theorem jJ {back : Bool} {l : List ay} {k : Nat} {e : Int × Int} (h : (bN l).1 = 0) (hk : k ≤ l.length) (h1 : dz back l k = .error e) : ct back l = (jY, e) := by
 unfold ct;rw [if_neg (by simp [h]), zn h1 _ hk]
theorem nF {back : Bool} {l : List ay} {s : MI} (h : (bN l).1 = 0) (h1 : dz back l l.length = .ok s) : ct back l = (⟨s.some?, s.only, if back = true then (s.ps ++ gj s.a).reverse else s.ps ++ gj s.a⟩, (0, 0)) := by
 unfold ct;rw [if_neg (by simp [h]), h1]
theorem xw (l : List ay) : ∀ k, (∃ s t, dz false l k = .ok s ∧ dz true l k = .ok t ∧ s.some? = t.some? ∧ s.only = t.only) ∨ (∃ e, dz false l k = .error e ∧ dz true l k = .error e) := by
 intro k;induction k with
 | zero => exact .inl ⟨_, _, rfl, rfl, rfl, rfl⟩
 | succ k ih =>
  rcases ih with ⟨s, t, h1, h2, h3, h4⟩ | ⟨e, h1, h2⟩
  ·cases hp : l[k]? with
   | none => exact .inl ⟨s, t, by rw [dz, h1]; simp only [hp], by rw [dz, h2]; simp only [hp], h3, h4⟩
   | some p =>
    rw [kj h1 hp, kj h2 hp];unfold iH;by_cases k1 : p.kind = 1
    ·rw [if_pos k1, if_pos k1];cases fD (l.take k) p.name with
     | none => exact .inl ⟨s, t, rfl, rfl, h3, h4⟩
     | some x => exact .inr ⟨_, rfl, rfl⟩
    rw [if_neg k1, if_neg k1];by_cases k3 : p.kind = 3
    ·rw [if_pos k3, if_pos k3, h3];by_cases ht : t.some? = true
     ·rw [if_pos ht, if_pos ht]; exact .inr ⟨_, rfl, rfl⟩
     rw [if_neg ht, if_neg ht]; exact .inl ⟨_, _, rfl, rfl, rfl, rfl⟩
    rw [if_neg k3, if_neg k3];by_cases k4 : p.kind = 4
    ·rw [if_pos k4, if_pos k4];exact .inl ⟨_, _, rfl, rfl, h3, h4⟩
    rw [if_neg k4, if_neg k4];cases eM (l.take k) p.left p.right with
    | none => exact .inr ⟨_, rfl, rfl⟩
    | some x =>
     cases eM (l.take k) p.right p.left with
     | none => exact .inr ⟨_, rfl, rfl⟩
     | some y =>
      refine .inl ⟨_, _, rfl, rfl, ?_, ?_⟩
      ·by_cases d1 : p.dir = 1 <;> by_cases d2 : p.dir = 2 <;> simp [d1, d2, h3]
      by_cases d1 : p.dir = 1 <;> by_cases d2 : p.dir = 2 <;> simp [d1, d2, h4]
  exact .inr ⟨e, by rw [dz, h1], by rw [dz, h2]⟩
theorem AI (s : ByteArray) (w : World) : Calls Tryz.prog 123 #[.string s] w fun e w' => e = .returned (.string (dO s)) ∧ w = w' := by
 have e1 : jI.toList = [117, 112, 112, 101, 114] := (by rw [Lib.toList_data]; rfl);have e2 : jH.toList = [108, 111, 119, 101, 114] := (by rw [Lib.toList_data]; rfl);have q1 : (s.toList == [117, 112, 112, 101, 114]) = decide (s = jI) := (by rw [← e1, J0]);have q2 : (s.toList == [108, 111, 119, 101, 114]) = decide (s = jH) := (by rw [← e2, J0]);clear e1 e2;by_cases h1 : s = jI
 ·have p1 : (s.toList == [117, 112, 112, 101, 114]) = true := (by rw [q1]; simpa using h1);have HI := Lib.hid (show dO s = ⟨#[108, 111, 119, 101, 114]⟩ by unfold dO; rw [if_pos h1]; rfl);clear h1 q1 q2;go_enter Tryz.func123, Tryz.ntmps123;go_wp2;go_ret;rw [HI.out];exact ⟨rfl, rfl⟩
 have p1 : (s.toList == [117, 112, 112, 101, 114]) = false := (by rw [q1]; simpa using h1);by_cases h2 : s = jH
 ·have p2 : (s.toList == [108, 111, 119, 101, 114]) = true := (by rw [q2]; simpa using h2);have HI := Lib.hid (show dO s = ⟨#[117, 112, 112, 101, 114]⟩ by unfold dO; rw [if_neg h1, if_pos h2]; rfl);clear h1 h2 q1 q2;go_enter Tryz.func123, Tryz.ntmps123;go_wp2;go_ret;rw [HI.out];exact ⟨rfl, rfl⟩
 have p2 : (s.toList == [108, 111, 119, 101, 114]) = false := (by rw [q2]; simpa using h2);have HI := Lib.hid (show dO s = ⟨#[110, 117, 108, 108]⟩ by unfold dO; rw [if_neg h1, if_neg h2]; rfl);clear h1 h2 q1 q2;go_enter Tryz.func123, Tryz.ntmps123;go_wp2;go_ret;rw [HI.out];exact ⟨rfl, rfl⟩
def bw (B lo : Nat) (va vb vp vq : Value) (b : Nat) : Prop := b < B ∨ (lo ≤ b ∧ va.ownBlock ≠ some b ∧ vb.ownBlock ≠ some b ∧ vp.ownBlock ≠ some b ∧ vq.ownBlock ≠ some b)
def cQ (B lo : Nat) (A A2 : List eB) (P P2 : List fk) (va vb vp vq : Value) (wx : World) : Prop :=
  dc (eJ wx (bw B lo va vb vp vq)) 121 7 wx lo va A ∧ dc (eJ wx (bw B lo va vb vp vq)) 121 7 wx lo vb A2 ∧
  dc (ez wx (bw B lo va vb vp vq)) 118 2 wx lo vp P ∧ dc (ez wx (bw B lo va vb vp vq)) 118 2 wx lo vq P2 ∧
  (∀ b, va.ownBlock = some b → vb.ownBlock ≠ some b) ∧ (∀ b, vp.ownBlock = some b → vq.ownBlock ≠ some b)
section
variable {B lo : Nat} {A A2 : List eB} {P P2 : List fk} {va vb vp vq v' : Value} {wx w2 : World}
theorem bw.uU {b : Nat} (h : bw B lo va vb vp vq b) : bw B lo vb va vp vq b := h.imp id (fun ⟨h1, h2, h3, h4⟩ => ⟨h1, h3, h2, h4⟩)
theorem bw.rJ {b : Nat} (h : bw B lo va vb vp vq b) : bw B lo va vb vq vp b := h.imp id (fun ⟨h1, h2, h3, h4, h5⟩ => ⟨h1, h2, h3, h5, h4⟩)
theorem cQ.nil (B lo : Nat) (w : World) : cQ B lo [] [] [] [] (.slice none 0 0) (.slice none 0 0) (.slice none 0 0) (.slice none 0 0) w :=
  ⟨dc.nil _ _, dc.nil _ _, dc.nil _ _, dc.nil _ _, fun b h => by simp [Value.ownBlock] at h, fun b h => by simp [Value.ownBlock] at h⟩
theorem cQ.kept (hk : ag wx (bw B lo va vb vp vq) w2 (bw B lo va vb vp vq)) (ho : ∀ (e : TypeId) (sz n : Nat) (v : Value) (xs : List Value), wx.ownsRow lo e sz v n xs → w2.ownsRow lo e sz v n xs)
    (h : cQ B lo A A2 P P2 va vb vp vq wx) : cQ B lo A A2 P P2 va vb vp vq w2 := by
 obtain ⟨h1, h2, h3, h4, h5, h6⟩ := h;exact ⟨h1.kept (ho _ _ · _ ·) (fun _ _ => eJ.keep hk), h2.kept (ho _ _ · _ ·) (fun _ _ => eJ.keep hk), h3.kept (ho _ _ · _ ·) (fun _ _ => ez.keep hk), h4.kept (ho _ _ · _ ·) (fun _ _ => ez.keep hk), h5, h6⟩
theorem cQ.below (h : cQ B lo A A2 P P2 va vb vp vq wx) (hb : Below wx.heap.size wx w2) : cQ B lo A A2 P P2 va vb vp vq w2 :=
  cQ.kept (ag.below hb (fun _ h _ => h)) (fun _ _ _ _ _ h => eX h hb) h
theorem cQ.alloc (h : cQ B lo A A2 P P2 va vb vp vq wx) (o : Obj) : cQ B lo A A2 P P2 va vb vp vq (wx.alloc o) := h.below ((Below.refl _ _).alloc (Nat.le_refl _) o)
theorem cQ.uU (h : cQ B lo A A2 P P2 va vb vp vq wx) : cQ B lo A2 A P P2 vb va vp vq wx := by
 obtain ⟨h1, h2, h3, h4, h5, h6⟩ := h;have hk : ag wx (bw B lo va vb vp vq) wx (bw B lo vb va vp vq) := ag.refl (fun _ h => h.uU);exact ⟨h2.weak (fun _ _ => eJ.keep hk), h1.weak (fun _ _ => eJ.keep hk), h3.weak (fun _ _ => ez.keep hk), h4.weak (fun _ _ => ez.keep hk), fun b hb hc => h5 b hc hb, h6⟩
theorem cQ.rJ (h : cQ B lo A A2 P P2 va vb vp vq wx) : cQ B lo A A2 P2 P va vb vq vp wx := by
 obtain ⟨h1, h2, h3, h4, h5, h6⟩ := h;have hk : ag wx (bw B lo va vb vp vq) wx (bw B lo va vb vq vp) := ag.refl (fun _ h => h.rJ);exact ⟨h1.weak (fun _ _ => eJ.keep hk), h2.weak (fun _ _ => eJ.keep hk), h4.weak (fun _ _ => ez.keep hk), h3.weak (fun _ _ => ez.keep hk), h5, fun b hb hc => h6 b hc hb⟩
theorem cQ.drop (h : cQ B lo A A2 P P2 va vb vp vq wx) : cQ B lo [] A2 P P2 (.slice none 0 0) vb vp vq wx := by
 obtain ⟨_, h2, h3, h4, _, h6⟩ := h;have hk : ag wx (bw B lo va vb vp vq) wx (bw B lo (.slice none 0 0) vb vp vq) := ag.refl (fun _ h => h.imp id (fun ⟨g1, _, g3⟩ => ⟨g1, by simp [Value.ownBlock], g3⟩));exact ⟨dc.nil _ _, h2.weak (fun _ _ => eJ.keep hk), h3.weak (fun _ _ => ez.keep hk), h4.weak (fun _ _ => ez.keep hk), fun b hb => by simp [Value.ownBlock] at hb, h6⟩
theorem cQ.xF (VJ : B ≤ lo) {css : List (List Value)} {p : fk} {cs : List Value} {t : TypeId} (h : cQ B lo A A2 P P2 va vb vp vq wx) (h1 : css.length = P.length)
    (h2 : ∀ (i : Nat) (a : fk) (cs : List Value), P[i]? = some a → css[i]? = some cs → ez wx (bw B lo va vb vp vq) a cs) (h3 : ∀ cs ∈ css, cs.length = 2) (h4 : wx.ownsRow lo 118 2 vp P.length css.flatten)
    (hp : ez wx (bw B lo va vb vp vq) p cs) (hcs : cs.length = 2) (ha : bg lo 118 2 vp (wx.alloc (.cells cs.toArray t)) (P.length + 1) (css.flatten ++ cs) v' w2) : cQ B lo A A2 (P ++ [p]) P2 va vb v' vq w2 := by
 obtain ⟨g1, g2, _, g4, g5, g6⟩ := h;have hk : ag wx (bw B lo va vb vp vq) w2 (bw B lo va vb v' vq) := by
  intro b hb hl;have jP : b < (wx.alloc (.cells cs.toArray t)).heap.size := (by simp; omega);have hne : vp.ownBlock ≠ some b := by
   rcases hb with hb | hb
   ·intro e;have := (bM h4 e).1;omega
   exact hb.2.2.2.1
  refine ⟨(ha.2.1.block b jP (fun e => hne e.symm)).trans (heap_alloc_old wx _ hl), hb.imp id (fun ⟨a1, a2, a3, a4, a5⟩ => ⟨a1, a2, a3, ?_, a5⟩), Nat.lt_of_lt_of_le jP ha.2.1.size⟩;rcases ha.2.2 with e | e
  ·rw [e]; exact a4
  rw [e];intro he;injection he with he;omega
 have ow := World.ownsRow.alloc h4 (.cells cs.toArray t)
 have kr : ∀ {v : Value} {n : Nat} {xs : List Value}, wx.ownsRow lo 121 7 v n xs → w2.ownsRow lo 121 7 v n xs := fun hv =>
   pV (World.ownsRow.alloc hv (.cells cs.toArray t)) ha (sv (World.ownsRow.alloc hv _) ow (by decide))
 have kq : ∀ {n : Nat} {xs : List Value}, wx.ownsRow lo 118 2 vq n xs → w2.ownsRow lo 118 2 vq n xs := fun hv =>
   pV (World.ownsRow.alloc hv (.cells cs.toArray t)) ha (su g6)
 refine ⟨g1.kept (fun _ _ h => kr h) (fun _ _ => eJ.keep hk), g2.kept (fun _ _ h => kr h) (fun _ _ => eJ.keep hk), dc.push h1 h2 h3 (fun _ _ => ez.keep hk) (hp.keep hk) hcs ha, g4.kept (fun _ _ h => kq h) (fun _ _ => ez.keep hk), g5, ?_⟩;intro b hb hc;rcases ha.2.2 with e | e
 ·rw [e] at hb;exact g6 b hb hc
 rw [e] at hb;obtain ⟨c4, _, _, _, o4⟩ := g4;have := (bM (World.ownsRow.alloc o4 (.cells cs.toArray t)) hc).2;injection hb with hb;omega
theorem cQ.DZ (VJ : B ≤ lo) {css : List (List Value)} {r : eB} {cs : List Value} {t : TypeId} (h : cQ B lo A A2 P P2 va vb vp vq wx) (h1 : css.length = A.length)
    (h2 : ∀ (i : Nat) (a : eB) (cs : List Value), A[i]? = some a → css[i]? = some cs → eJ wx (bw B lo va vb vp vq) a cs) (h3 : ∀ cs ∈ css, cs.length = 7) (h4 : wx.ownsRow lo 121 7 va A.length css.flatten)
    (hp : eJ wx (bw B lo va vb vp vq) r cs) (hcs : cs.length = 7) (ha : bg lo 121 7 va (wx.alloc (.cells cs.toArray t)) (A.length + 1) (css.flatten ++ cs) v' w2) : cQ B lo (A ++ [r]) A2 P P2 v' vb vp vq w2 := by
 obtain ⟨_, g2, g3, g4, g5, g6⟩ := h;have hk : ag wx (bw B lo va vb vp vq) w2 (bw B lo v' vb vp vq) := by
  intro b hb hl;have jP : b < (wx.alloc (.cells cs.toArray t)).heap.size := (by simp; omega);have hne : va.ownBlock ≠ some b := by
   rcases hb with hb | hb
   ·intro e;have := (bM h4 e).1;omega
   exact hb.2.1
  refine ⟨(ha.2.1.block b jP (fun e => hne e.symm)).trans (heap_alloc_old wx _ hl), hb.imp id (fun ⟨a1, a2, a3, a4, a5⟩ => ⟨a1, ?_, a3, a4, a5⟩), Nat.lt_of_lt_of_le jP ha.2.1.size⟩;rcases ha.2.2 with e | e
  ·rw [e]; exact a2
  rw [e];intro he;injection he with he;omega
 have ow := World.ownsRow.alloc h4 (.cells cs.toArray t)
 have kp : ∀ {v : Value} {n : Nat} {xs : List Value}, wx.ownsRow lo 118 2 v n xs → w2.ownsRow lo 118 2 v n xs := fun hv =>
   pV (World.ownsRow.alloc hv (.cells cs.toArray t)) ha (sv (World.ownsRow.alloc hv _) ow (by decide))
 have kb : ∀ {n : Nat} {xs : List Value}, wx.ownsRow lo 121 7 vb n xs → w2.ownsRow lo 121 7 vb n xs := fun hv =>
   pV (World.ownsRow.alloc hv (.cells cs.toArray t)) ha (su g5)
 refine ⟨dc.push h1 h2 h3 (fun _ _ => eJ.keep hk) (hp.keep hk) hcs ha, g2.kept (fun _ _ h => kb h) (fun _ _ => eJ.keep hk), g3.kept (fun _ _ h => kp h) (fun _ _ => ez.keep hk), g4.kept (fun _ _ h => kp h) (fun _ _ => ez.keep hk), ?_, g6⟩;intro b hb hc;rcases ha.2.2 with e | e
 ·rw [e] at hb;exact g5 b hb hc
 rw [e] at hb;obtain ⟨c2, _, _, _, o2⟩ := g2;have := (bM (World.ownsRow.alloc o2 (.cells cs.toArray t)) hc).2;injection hb with hb;omega
theorem cQ.pass (h : cQ B lo A A2 P P2 va vb vp vq wx) (hl : A.length ≤ maxLen) (nm : ByteArray) : ez wx (bw B lo (.slice none 0 0) vb vp vq) ⟨nm, A⟩ [.string nm, va] := by
 obtain ⟨h1, _, h3, h4, h5, _⟩ := h;obtain ⟨Aa, c, rfl, _⟩ := h1.form;refine ⟨_, rfl, Aa, A.length, c, rfl, dc.done h1 (fun _ _ => eJ.keep (ag.refl (fun _ h => h.imp id (fun ⟨g1, _, g3⟩ => ⟨g1, by simp [Value.ownBlock], g3⟩)))) (fun b hb => .inr ?_), hl⟩;obtain ⟨css, _, _, _, o1⟩ := h1;obtain ⟨Rk, _, _, _, o3⟩ := h3;obtain ⟨Qa, _, _, _, o4⟩ := h4;have ne : ∀ {v : Value} {n : Nat} {xs : List Value}, wx.ownsRow lo 118 2 v n xs → v.ownBlock ≠ some b := by
  intro v n xs ho;rcases o1.2 with ⟨hv, _⟩ | ⟨g, cap, cur, hv, _, hg, _⟩
  ·rw [hv] at hb; simp [Value.ownBlock] at hb
  rw [hv] at hb;simp only [Value.ownBlock, Option.some.injEq] at hb;subst hb;exact kO ho hg (by decide)
 exact ⟨(bM o1 hb).1, by simp [Value.ownBlock], h5 b hb, ne o3, ne o4⟩
end
end Go.Proofs.YthnhbcohfoodlaaGreatDoor
