/- A rule of a file, resolved: the walk of (resolve.vars).rule: ruleP'. -/
import Derived.Test.YthcjiainpaebfaaRuleRef
namespace Go.Proofs.Ythcjiainpaebfaa
open Go.RowKit Go.Maps

/-- The boxes of a rule's two sides, of what it returns, of the rule that is built, of the three patterns. -/
def RsAt (w : World) (csF csT csR arr : Array Value) (wx : World) : Prop :=
  Blk wx w.heap.size 38 csF ∧ Blk wx (w.heap.size + 1) 38 csT ∧ Blk wx (w.heap.size + 2) 59 zeroRule ∧
  Blk wx (w.heap.size + 3) 59 csR ∧ Blk wx (w.heap.size + 4) 79 arr ∧ Below w.heap.size w wx
section
variable {w wx w2 : World} {csF csT csR arr : Array Value}
theorem RsAt.below (h : RsAt w csF csT csR arr wx) (hb : Below wx.heap.size wx w2) : RsAt w csF csT csR arr w2 :=
  ⟨Blk.below h.1 hb h.1.lt, Blk.below h.2.1 hb h.2.1.lt, Blk.below h.2.2.1 hb h.2.2.1.lt, Blk.below h.2.2.2.1 hb h.2.2.2.1.lt, Blk.below h.2.2.2.2.1 hb h.2.2.2.2.1.lt, h.2.2.2.2.2.trans (hb.mono h.2.2.2.2.2.size)⟩
theorem RsAt.alloc (h : RsAt w csF csT csR arr wx) (o : Obj) : RsAt w csF csT csR arr (wx.alloc o) := h.below ((Below.refl _ _).alloc (Nat.le_refl _) o)
theorem blk_set_ne {g g2 i : Nat} {u : Value} {t : TypeId} {cs : Array Value} (h : Blk wx g2 t cs) (hne : g2 ≠ g) : Blk (wx.setCell ⟨g, i, none⟩ u) g2 t cs := by
  unfold Blk at h ⊢
  rw [Below.heap_setCell _ _ _ _ hne]
  exact h
theorem RsAt.put (h : RsAt w csF csT csR arr wx) (i : Nat) (u : Value) : RsAt w csF csT (csR.setIfInBounds i u) arr (wx.setCell ⟨w.heap.size + 3, i, none⟩ u) :=
  ⟨blk_set_ne h.1 (by omega), blk_set_ne h.2.1 (by omega), blk_set_ne h.2.2.1 (by omega), h.2.2.2.1.put i u, blk_set_ne h.2.2.2.2.1 (by omega), h.2.2.2.2.2.setCell (by simp) _⟩
theorem RsAt.app {base sz n m : Nat} {e : TypeId} {v v' : Value} {xs ys : List Value} (h : RsAt w csF csT csR arr wx) (ho : wx.ownsRow base e sz v n xs) (h1 : 38 ≠ e) (h2 : 59 ≠ e) (h3 : 79 ≠ e) (hb : w.heap.size ≤ base) (ha : Appended base e sz v wx m ys v' w2) : RsAt w csF csT csR arr w2 :=
  ⟨blk_app h.1 ho h1 ha, blk_app h.2.1 ho h1 ha, blk_app h.2.2.1 ho h2 ha, blk_app h.2.2.2.1 ho h2 ha, blk_app h.2.2.2.2.1 ho h3 ha, h.2.2.2.2.2.trans (ha.below h.2.2.2.2.2.size (own_mono ho hb))⟩
end
/-- A pattern's sets, where they are laid already. -/
def Laid (w : World) (B lo : Nat) (r : Option (List Spans)) (v : Value) : Prop := ∃ A n c ll, v = .slice A n c ∧ r = some ll ∧ SetsV w (Fr B lo) ll v
theorem Laid.keep {w w' : World} {B lo : Nat} {r : Option (List Spans)} {v : Value} (hk : Keeps w (Fr B lo) w' (Fr B lo)) (h : Laid w B lo r v) : Laid w' B lo r v := by
  obtain ⟨A, n, c, ll, e, h1, h2⟩ := h
  exact ⟨A, n, c, ll, e, h1, h2.keep hk⟩
def SpRel (w : World) (B : Nat) (csF csT arr : Array Value) (c0 c1 : Value) (r1 r2 r3 : Option (List Spans)) (i : Value) (wr : World) : Prop :=
  ∃ (k : Nat) (v1 v2 v3 : Value), k ≤ 3 ∧ i = .int .i64 k ∧ RsAt w csF csT #[c0, c1, v1, v2, v3, .slice none 0 0, .int .i64 0] arr wr ∧
    (if k < 1 then v1 = .slice none 0 0 else Laid wr B (w.heap.size + 5) r1 v1) ∧ (if k < 2 then v2 = .slice none 0 0 else Laid wr B (w.heap.size + 5) r2 v2) ∧ (if k < 3 then v3 = .slice none 0 0 else Laid wr B (w.heap.size + 5) r3 v3)
/-- While the runes are laid: what the sets stand in stays. -/
def SqRel (w w0 : World) (B : Nat) (csF csT arr : Array Value) (c0 c1 c2 c3 c4 : Value) (L : List ItemD) (n : Nat) (i : Value) (wr : World) : Prop :=
  ∃ (k : Nat) (v : Value), k ≤ n ∧ i = .int .i64 k ∧ RsAt w csF csT #[c0, c1, c2, c3, c4, v, .int .i64 0] arr wr ∧ wr.ownsRow w0.heap.size 21 1 v k (runeCells ((L.take k).map (·.rune))) ∧
    Keeps w0 (Fr B (w.heap.size + 5)) wr (fun b => Fr B (w.heap.size + 5) b ∧ b < w0.heap.size) ∧ w0.heap.size ≤ wr.heap.size

theorem rl_none {w : World} {B lo : Nat} {l : List PartD} {f t : SideD} {cs : List Value} (h : ((setsP l f.before).isSome && (setsP l f.source).isSome && (setsP l f.after).isSome) = false) (hc : cs.length = 7) (h1 : ∀ u ∈ cs, u.oneCell' = true) :
    RlPost w B lo (ruleP' l f t) (.returned (.tuple #[.agg cs.toArray, .bool false])) := by
  have hn := (ruleP_isSome l f t).trans h
  refine ⟨cs, hc, by rw [hn], h1, fun rd hr => ?_⟩
  rw [hr] at hn
  cases hn

set_option maxRecDepth 100000 in
set_option maxHeartbeats 6400000 in
theorem syn_rule (mb nm : Nat) (LP : List PartD) (f t : SideD) (L1 L2 L3 R1 R2 R3 : Option Addr) (a1 a2 a3 x1 x2 x3 b1 b2 b3 y1 y2 y3 : Nat) (w : World) (B : Nat) (hB : B ≤ w.heap.size) (hE : EnvM w (· < B) mb nm LP) (hok2 : ∀ s set, lookP LP s = some set → set.length ≤ 200)
    (l1 : RdIt w B L1 a1 f.before) (l2 : RdIt w B L2 a2 f.source) (l3 : RdIt w B L3 a3 f.after) (k1 : itemsP f.before = 0) (k2 : itemsP f.source = 0) (k3 : itemsP f.after = 0) (r2 : RdIt w B R2 b2 t.source) (j2 : itemsP t.source = 0) :
    Calls Try.prog 27 #[.map (some mb), .agg #[.bool f.start, .bool f.fin, .slice L1 a1 x1, .slice L2 a2 x2, .slice L3 a3 x3, .int .i64 f.cursor], .agg #[.bool t.start, .bool t.fin, .slice R1 b1 y1, .slice R2 b2 y2, .slice R3 b3 y3, .int .i64 t.cursor]] w
      fun e w' => RlPost w' B w.heap.size (ruleP' LP f t) e ∧ Below w.heap.size w w' := by
  obtain ⟨i0, hi, hz0, hz1, hz2⟩ := info_parts infoRune
  obtain ⟨h20, _⟩ := items_ok j2
  have hb20 : b2 ≤ 20 := by rw [← RdL.len r2]; exact h20
  have HRL := Lib.hid (RdL.len r2)
  have HR2 := Lib.hid r2
  have hs := fun (w' : World) (hb : Below w.heap.size w w') (A' : Option Addr) (n' c' : Nat) (L : List ItemD) (hL : RdIt w B A' n' L) (hok : itemsP L = 0) => syn_sets mb nm LP A' n' c' L w' B (Nat.le_trans hB hb.size) (EnvM.keep (Keeps.below hb (fun _ h _ => h)) (hb.block mb hE.lt) hE) hok2 (RdIt.weak (weak_of (hb.mono hB) (Nat.le_refl _)) hL) hok
  have HS1 := Lib.hid (fun (w' : World) (hb : Below w.heap.size w w') => hs w' hb L1 a1 x1 f.before l1 k1)
  have HS2 := Lib.hid (fun (w' : World) (hb : Below w.heap.size w w') => hs w' hb L2 a2 x2 f.source l2 k2)
  have HS3 := Lib.hid (fun (w' : World) (hb : Below w.heap.size w w') => hs w' hb L3 a3 x3 f.after l3 k3)
  have hx0 := BoxAt.made w #[.bool f.start, .bool f.fin, .slice L1 a1 x1, .slice L2 a2 x2, .slice L3 a3 x3, .int .i64 f.cursor] #[.bool t.start, .bool t.fin, .slice R1 b1 y1, .slice R2 b2 y2, .slice R3 b3 y3, .int .i64 t.cursor]
  have hx1 : RsAt w #[.bool f.start, .bool f.fin, .slice L1 a1 x1, .slice L2 a2 x2, .slice L3 a3 x3, .int .i64 f.cursor] #[.bool t.start, .bool t.fin, .slice R1 b1 y1, .slice R2 b2 y2, .slice R3 b3 y3, .int .i64 t.cursor] #[.bool f.start, .bool f.fin, .slice none 0 0, .slice none 0 0, .slice none 0 0, .slice none 0 0, .int .i64 0] #[.slice L1 a1 x1, .pointer (some ⟨w.heap.size + 3, 2, none⟩), .slice L2 a2 x2, .pointer (some ⟨w.heap.size + 3, 3, none⟩), .slice L3 a3 x3, .pointer (some ⟨w.heap.size + 3, 4, none⟩)] ((((((w.alloc (.cells #[.bool f.start, .bool f.fin, .slice L1 a1 x1, .slice L2 a2 x2, .slice L3 a3 x3, .int .i64 f.cursor] 38)).alloc (.cells #[.bool t.start, .bool t.fin, .slice R1 b1 y1, .slice R2 b2 y2, .slice R3 b3 y3, .int .i64 t.cursor] 38)).alloc (.cells zeroRule 59))).alloc (.cells #[.bool f.start, .bool f.fin, .slice none 0 0, .slice none 0 0, .slice none 0 0, .slice none 0 0, .int .i64 0] 59)).alloc (.cells #[.slice L1 a1 x1, .pointer (some ⟨w.heap.size + 3, 2, none⟩), .slice L2 a2 x2, .pointer (some ⟨w.heap.size + 3, 3, none⟩), .slice L3 a3 x3, .pointer (some ⟨w.heap.size + 3, 4, none⟩)] 79)) := by
    obtain ⟨g1, g2, g3, g4⟩ := hx0
    refine ⟨Blk.alloc (Blk.alloc g1 _) _, Blk.alloc (Blk.alloc g2 _) _, Blk.alloc (Blk.alloc g3 _) _, Blk.alloc ?_ _, ?_, (g4.alloc g4.size _).alloc (g4.alloc g4.size _).size _⟩
    · have := Blk.new (((w.alloc (.cells #[.bool f.start, .bool f.fin, .slice L1 a1 x1, .slice L2 a2 x2, .slice L3 a3 x3, .int .i64 f.cursor] 38)).alloc (.cells #[.bool t.start, .bool t.fin, .slice R1 b1 y1, .slice R2 b2 y2, .slice R3 b3 y3, .int .i64 t.cursor] 38)).alloc (.cells zeroRule 59)) 59 #[.bool f.start, .bool f.fin, .slice none 0 0, .slice none 0 0, .slice none 0 0, .slice none 0 0, .int .i64 0]
      simpa using this
    · have := Blk.new ((((w.alloc (.cells #[.bool f.start, .bool f.fin, .slice L1 a1 x1, .slice L2 a2 x2, .slice L3 a3 x3, .int .i64 f.cursor] 38)).alloc (.cells #[.bool t.start, .bool t.fin, .slice R1 b1 y1, .slice R2 b2 y2, .slice R3 b3 y3, .int .i64 t.cursor] 38)).alloc (.cells zeroRule 59)).alloc (.cells #[.bool f.start, .bool f.fin, .slice none 0 0, .slice none 0 0, .slice none 0 0, .slice none 0 0, .int .i64 0] 59)) 79 #[.slice L1 a1 x1, .pointer (some ⟨w.heap.size + 3, 2, none⟩), .slice L2 a2 x2, .pointer (some ⟨w.heap.size + 3, 3, none⟩), .slice L3 a3 x3, .pointer (some ⟨w.heap.size + 3, 4, none⟩)]
      simpa using this
  have HX1 := Lib.hid hx1
  clear hs l1 l2 l3 r2 k1 k2 k3 j2 h20 hx0 hx1 hE hok2
  go_enter Try.func27, Try.ntmps27
  go_wp2_with fail
  go_loopw [34] (SpRel w B #[.bool f.start, .bool f.fin, .slice L1 a1 x1, .slice L2 a2 x2, .slice L3 a3 x3, .int .i64 f.cursor] #[.bool t.start, .bool t.fin, .slice R1 b1 y1, .slice R2 b2 y2, .slice R3 b3 y3, .int .i64 t.cursor] #[.slice L1 a1 x1, .pointer (some ⟨w.heap.size + 3, 2, none⟩), .slice L2 a2 x2, .pointer (some ⟨w.heap.size + 3, 3, none⟩), .slice L3 a3 x3, .pointer (some ⟨w.heap.size + 3, 4, none⟩)] (.bool f.start) (.bool f.fin) (setsP LP f.before) (setsP LP f.source) (setsP LP f.after)) (fun i _ => 3 - (intOf i).toNat)
  case atStart => exact ⟨0, _, _, _, by omega, rfl, HX1.out, by simp, by simp, by simp⟩
  case round =>
    obtain ⟨k, v1, v2, v3, hk, rfl, hat, g1, g2, g3⟩ := hrel
    by_cases hlt : k < 3
    · obtain rfl | rfl | rfl : k = 0 ∨ k = 1 ∨ k = 2 := by omega
      · obtain rfl : v1 = .slice none 0 0 := by simpa using g1
        obtain rfl : v2 = .slice none 0 0 := by simpa using g2
        obtain rfl : v3 = .slice none 0 0 := by simpa using g3
        clear g1 g2 g3
        have z0 : wr.cell? ⟨w.heap.size + 4, 0, none⟩ = some (.slice L1 a1 x1) := hat.2.2.2.2.1.cell 0
        have z1 : wr.cell? ⟨w.heap.size + 4, 1, none⟩ = some (.pointer (some ⟨w.heap.size + 3, 2, none⟩)) := hat.2.2.2.2.1.cell 1
        have HAT := Lib.hid (RsAt.alloc hat (.cells #[.slice L1 a1 x1, .pointer (some ⟨w.heap.size + 3, 2, none⟩)] 79))
        have HK := Lib.hid (Blk.new wr 79 #[.slice L1 a1 x1, .pointer (some ⟨w.heap.size + 3, 2, none⟩)])
        clear hat 
        go_wp2_with fail
        refine (HS1.out _ HAT.out.2.2.2.2.2).mono ?_
        rintro e w2 ⟨he, hb2⟩
        obtain ⟨A9, n9, c9, o9, rfl, ho9, hv9⟩ := st_form he
        have hat2 := RsAt.below HAT.out hb2
        have hk2 := Blk.below HK.out hb2 HK.out.lt
        have t0 : w2.cell? ⟨w.heap.size + 3, 0, none⟩ = some (.bool f.start) := hat2.2.2.2.1.cell 0
        have t1 : w2.cell? ⟨w.heap.size + 3, 1, none⟩ = some (.bool f.fin) := hat2.2.2.2.1.cell 1
        have t2 : w2.cell? ⟨w.heap.size + 3, 2, none⟩ = some (.slice none 0 0) := hat2.2.2.2.1.cell 2
        have t3 : w2.cell? ⟨w.heap.size + 3, 3, none⟩ = some (.slice none 0 0) := hat2.2.2.2.1.cell 3
        have t4 : w2.cell? ⟨w.heap.size + 3, 4, none⟩ = some (.slice none 0 0) := hat2.2.2.2.1.cell 4
        have t5 : w2.cell? ⟨w.heap.size + 3, 5, none⟩ = some (.slice none 0 0) := hat2.2.2.2.1.cell 5
        have t6 : w2.cell? ⟨w.heap.size + 3, 6, none⟩ = some (.int .i64 0) := hat2.2.2.2.1.cell 6
        have s0 : w2.cell? ⟨w.heap.size + 2, 0, none⟩ = some (.bool false) := hat2.2.2.1.cell 0
        have sf0 := hat2.2.2.1.frozen 0
        have s1 : w2.cell? ⟨w.heap.size + 2, 1, none⟩ = some (.bool false) := hat2.2.2.1.cell 1
        have sf1 := hat2.2.2.1.frozen 1
        have s2 : w2.cell? ⟨w.heap.size + 2, 2, none⟩ = some (.slice none 0 0) := hat2.2.2.1.cell 2
        have sf2 := hat2.2.2.1.frozen 2
        have s3 : w2.cell? ⟨w.heap.size + 2, 3, none⟩ = some (.slice none 0 0) := hat2.2.2.1.cell 3
        have sf3 := hat2.2.2.1.frozen 3
        have s4 : w2.cell? ⟨w.heap.size + 2, 4, none⟩ = some (.slice none 0 0) := hat2.2.2.1.cell 4
        have sf4 := hat2.2.2.1.frozen 4
        have s5 : w2.cell? ⟨w.heap.size + 2, 5, none⟩ = some (.slice none 0 0) := hat2.2.2.1.cell 5
        have sf5 := hat2.2.2.1.frozen 5
        have s6 : w2.cell? ⟨w.heap.size + 2, 6, none⟩ = some (.int .i64 0) := hat2.2.2.1.cell 6
        have sf6 := hat2.2.2.1.frozen 6
        have m1 : w2.cell? ⟨wr.heap.size, 1, none⟩ = some (.pointer (some ⟨w.heap.size + 3, 2, none⟩)) := hk2.cell 1
        have mf := hat2.2.2.2.1.frozen 2
        have HAT2 := Lib.hid hat2
        have HB2 := Lib.hid hb2
        have HO9 := Lib.hid ho9
        have HV9 := Lib.hid hv9
        have hlt4 := hat2.2.2.2.2.1.lt
        clear he hat2 hk2 hb2 ho9 hv9
        cases o9
        · go_wp2_with fail
          exact bodyPost_ret (by simp [results, Try.results27, go_sem, s0, s1, s2, s3, s4, s5, s6]) rfl ⟨rl_none (cs := [.bool f.start, .bool f.fin, .slice none 0 0, .slice none 0 0, .slice none 0 0, .slice none 0 0, .int .i64 0]) (by rw [← HO9.out]; simp) rfl (by intro u hu; simp only [List.mem_cons, List.not_mem_nil, or_false] at hu; rcases hu with rfl | rfl | rfl | rfl | rfl | rfl | rfl <;> rfl), below7 HAT2.out.2.2.2.2.2 (by omega) _ _ _ _ _ _ _⟩
        · go_wp2_with fail
          obtain ⟨ll9, hll9⟩ := Option.isSome_iff_exists.1 HO9.out.symm
          have kk : Keeps w2 (Fr B (w.heap.size + 5)) (w2.setCell ⟨w.heap.size + 3, 2, none⟩ (.slice A9 n9 c9)) (Fr B (w.heap.size + 5)) := Keeps.setCell _ (fun b hb => by rcases hb with h | h <;> dsimp only <;> omega) (fun _ h _ => h)
          refine ⟨⟨1, .slice A9 n9 c9, .slice none 0 0, .slice none 0 0, by omega, by go_num, HAT2.out.put 2 (.slice A9 n9 c9), by rw [if_neg (by omega)]; exact ⟨_, _, _, ll9, rfl, hll9, (HV9.out ll9 hll9).keep ((Keeps.refl (X' := Fr B (w.heap.size + 5)) (fun b hb => hb.imp id (fun h => Nat.le_trans (Nat.succ_le_of_lt HAT.out.2.2.2.2.1.lt) h))).trans kk)⟩, by rw [if_pos (by omega)], by rw [if_pos (by omega)]⟩, by simp [intOf]⟩
      · obtain ⟨P1, p1, q1, ll1, rfl, hl1, hv1⟩ := (show Laid wr B (w.heap.size + 5) _ _ from by simpa using g1)
        obtain rfl : v2 = .slice none 0 0 := by simpa using g2
        obtain rfl : v3 = .slice none 0 0 := by simpa using g3
        clear g1 g2 g3
        have z0 : wr.cell? ⟨w.heap.size + 4, 2, none⟩ = some (.slice L2 a2 x2) := hat.2.2.2.2.1.cell 2
        have z1 : wr.cell? ⟨w.heap.size + 4, 3, none⟩ = some (.pointer (some ⟨w.heap.size + 3, 3, none⟩)) := hat.2.2.2.2.1.cell 3
        have HAT := Lib.hid (RsAt.alloc hat (.cells #[.slice L2 a2 x2, .pointer (some ⟨w.heap.size + 3, 3, none⟩)] 79))
        have HK := Lib.hid (Blk.new wr 79 #[.slice L2 a2 x2, .pointer (some ⟨w.heap.size + 3, 3, none⟩)])
        have HV1 := Lib.hid (hv1.keep (Keeps.alloc (.cells #[.slice L2 a2 x2, .pointer (some ⟨w.heap.size + 3, 3, none⟩)] 79) (fun _ h _ => h)))
        have HL1 := Lib.hid hl1
        clear hat hv1 hl1
        go_wp2_with fail
        refine (HS2.out _ HAT.out.2.2.2.2.2).mono ?_
        rintro e w2 ⟨he, hb2⟩
        obtain ⟨A9, n9, c9, o9, rfl, ho9, hv9⟩ := st_form he
        have hat2 := RsAt.below HAT.out hb2
        have hk2 := Blk.below HK.out hb2 HK.out.lt
        have t0 : w2.cell? ⟨w.heap.size + 3, 0, none⟩ = some (.bool f.start) := hat2.2.2.2.1.cell 0
        have t1 : w2.cell? ⟨w.heap.size + 3, 1, none⟩ = some (.bool f.fin) := hat2.2.2.2.1.cell 1
        have t2 : w2.cell? ⟨w.heap.size + 3, 2, none⟩ = some (.slice P1 p1 q1) := hat2.2.2.2.1.cell 2
        have t3 : w2.cell? ⟨w.heap.size + 3, 3, none⟩ = some (.slice none 0 0) := hat2.2.2.2.1.cell 3
        have t4 : w2.cell? ⟨w.heap.size + 3, 4, none⟩ = some (.slice none 0 0) := hat2.2.2.2.1.cell 4
        have t5 : w2.cell? ⟨w.heap.size + 3, 5, none⟩ = some (.slice none 0 0) := hat2.2.2.2.1.cell 5
        have t6 : w2.cell? ⟨w.heap.size + 3, 6, none⟩ = some (.int .i64 0) := hat2.2.2.2.1.cell 6
        have s0 : w2.cell? ⟨w.heap.size + 2, 0, none⟩ = some (.bool false) := hat2.2.2.1.cell 0
        have sf0 := hat2.2.2.1.frozen 0
        have s1 : w2.cell? ⟨w.heap.size + 2, 1, none⟩ = some (.bool false) := hat2.2.2.1.cell 1
        have sf1 := hat2.2.2.1.frozen 1
        have s2 : w2.cell? ⟨w.heap.size + 2, 2, none⟩ = some (.slice none 0 0) := hat2.2.2.1.cell 2
        have sf2 := hat2.2.2.1.frozen 2
        have s3 : w2.cell? ⟨w.heap.size + 2, 3, none⟩ = some (.slice none 0 0) := hat2.2.2.1.cell 3
        have sf3 := hat2.2.2.1.frozen 3
        have s4 : w2.cell? ⟨w.heap.size + 2, 4, none⟩ = some (.slice none 0 0) := hat2.2.2.1.cell 4
        have sf4 := hat2.2.2.1.frozen 4
        have s5 : w2.cell? ⟨w.heap.size + 2, 5, none⟩ = some (.slice none 0 0) := hat2.2.2.1.cell 5
        have sf5 := hat2.2.2.1.frozen 5
        have s6 : w2.cell? ⟨w.heap.size + 2, 6, none⟩ = some (.int .i64 0) := hat2.2.2.1.cell 6
        have sf6 := hat2.2.2.1.frozen 6
        have m1 : w2.cell? ⟨wr.heap.size, 1, none⟩ = some (.pointer (some ⟨w.heap.size + 3, 3, none⟩)) := hk2.cell 1
        have mf := hat2.2.2.2.1.frozen 3
        have HAT2 := Lib.hid hat2
        have HB2 := Lib.hid hb2
        have HO9 := Lib.hid ho9
        have HV9 := Lib.hid hv9
        have hlt4 := hat2.2.2.2.2.1.lt
        clear he hat2 hk2 hb2 ho9 hv9
        cases o9
        · go_wp2_with fail
          exact bodyPost_ret (by simp [results, Try.results27, go_sem, s0, s1, s2, s3, s4, s5, s6]) rfl ⟨rl_none (cs := [.bool f.start, .bool f.fin, .slice P1 p1 q1, .slice none 0 0, .slice none 0 0, .slice none 0 0, .int .i64 0]) (by rw [← HO9.out]; simp) rfl (by intro u hu; simp only [List.mem_cons, List.not_mem_nil, or_false] at hu; rcases hu with rfl | rfl | rfl | rfl | rfl | rfl | rfl <;> rfl), below7 HAT2.out.2.2.2.2.2 (by omega) _ _ _ _ _ _ _⟩
        · go_wp2_with fail
          obtain ⟨ll9, hll9⟩ := Option.isSome_iff_exists.1 HO9.out.symm
          have kk : Keeps w2 (Fr B (w.heap.size + 5)) (w2.setCell ⟨w.heap.size + 3, 3, none⟩ (.slice A9 n9 c9)) (Fr B (w.heap.size + 5)) := Keeps.setCell _ (fun b hb => by rcases hb with h | h <;> dsimp only <;> omega) (fun _ h _ => h)
          refine ⟨⟨2, .slice P1 p1 q1, .slice A9 n9 c9, .slice none 0 0, by omega, by go_num, HAT2.out.put 3 (.slice A9 n9 c9), by rw [if_neg (by omega)]; exact ⟨_, _, _, _, rfl, HL1.out, HV1.out.keep ((Keeps.below HB2.out (fun _ h _ => h)).trans kk)⟩, by rw [if_neg (by omega)]; exact ⟨_, _, _, ll9, rfl, hll9, (HV9.out ll9 hll9).keep ((Keeps.refl (X' := Fr B (w.heap.size + 5)) (fun b hb => hb.imp id (fun h => Nat.le_trans (Nat.succ_le_of_lt HAT.out.2.2.2.2.1.lt) h))).trans kk)⟩, by rw [if_pos (by omega)]⟩, by simp [intOf]⟩
      · obtain ⟨P1, p1, q1, ll1, rfl, hl1, hv1⟩ := (show Laid wr B (w.heap.size + 5) _ _ from by simpa using g1)
        obtain ⟨P2, p2, q2, ll2, rfl, hl2, hv2⟩ := (show Laid wr B (w.heap.size + 5) _ _ from by simpa using g2)
        obtain rfl : v3 = .slice none 0 0 := by simpa using g3
        clear g1 g2 g3
        have z0 : wr.cell? ⟨w.heap.size + 4, 4, none⟩ = some (.slice L3 a3 x3) := hat.2.2.2.2.1.cell 4
        have z1 : wr.cell? ⟨w.heap.size + 4, 5, none⟩ = some (.pointer (some ⟨w.heap.size + 3, 4, none⟩)) := hat.2.2.2.2.1.cell 5
        have HAT := Lib.hid (RsAt.alloc hat (.cells #[.slice L3 a3 x3, .pointer (some ⟨w.heap.size + 3, 4, none⟩)] 79))
        have HK := Lib.hid (Blk.new wr 79 #[.slice L3 a3 x3, .pointer (some ⟨w.heap.size + 3, 4, none⟩)])
        have HV1 := Lib.hid (hv1.keep (Keeps.alloc (.cells #[.slice L3 a3 x3, .pointer (some ⟨w.heap.size + 3, 4, none⟩)] 79) (fun _ h _ => h)))
        have HL1 := Lib.hid hl1
        have HV2 := Lib.hid (hv2.keep (Keeps.alloc (.cells #[.slice L3 a3 x3, .pointer (some ⟨w.heap.size + 3, 4, none⟩)] 79) (fun _ h _ => h)))
        have HL2 := Lib.hid hl2
        clear hat hv1 hl1 hv2 hl2
        go_wp2_with fail
        refine (HS3.out _ HAT.out.2.2.2.2.2).mono ?_
        rintro e w2 ⟨he, hb2⟩
        obtain ⟨A9, n9, c9, o9, rfl, ho9, hv9⟩ := st_form he
        have hat2 := RsAt.below HAT.out hb2
        have hk2 := Blk.below HK.out hb2 HK.out.lt
        have t0 : w2.cell? ⟨w.heap.size + 3, 0, none⟩ = some (.bool f.start) := hat2.2.2.2.1.cell 0
        have t1 : w2.cell? ⟨w.heap.size + 3, 1, none⟩ = some (.bool f.fin) := hat2.2.2.2.1.cell 1
        have t2 : w2.cell? ⟨w.heap.size + 3, 2, none⟩ = some (.slice P1 p1 q1) := hat2.2.2.2.1.cell 2
        have t3 : w2.cell? ⟨w.heap.size + 3, 3, none⟩ = some (.slice P2 p2 q2) := hat2.2.2.2.1.cell 3
        have t4 : w2.cell? ⟨w.heap.size + 3, 4, none⟩ = some (.slice none 0 0) := hat2.2.2.2.1.cell 4
        have t5 : w2.cell? ⟨w.heap.size + 3, 5, none⟩ = some (.slice none 0 0) := hat2.2.2.2.1.cell 5
        have t6 : w2.cell? ⟨w.heap.size + 3, 6, none⟩ = some (.int .i64 0) := hat2.2.2.2.1.cell 6
        have s0 : w2.cell? ⟨w.heap.size + 2, 0, none⟩ = some (.bool false) := hat2.2.2.1.cell 0
        have sf0 := hat2.2.2.1.frozen 0
        have s1 : w2.cell? ⟨w.heap.size + 2, 1, none⟩ = some (.bool false) := hat2.2.2.1.cell 1
        have sf1 := hat2.2.2.1.frozen 1
        have s2 : w2.cell? ⟨w.heap.size + 2, 2, none⟩ = some (.slice none 0 0) := hat2.2.2.1.cell 2
        have sf2 := hat2.2.2.1.frozen 2
        have s3 : w2.cell? ⟨w.heap.size + 2, 3, none⟩ = some (.slice none 0 0) := hat2.2.2.1.cell 3
        have sf3 := hat2.2.2.1.frozen 3
        have s4 : w2.cell? ⟨w.heap.size + 2, 4, none⟩ = some (.slice none 0 0) := hat2.2.2.1.cell 4
        have sf4 := hat2.2.2.1.frozen 4
        have s5 : w2.cell? ⟨w.heap.size + 2, 5, none⟩ = some (.slice none 0 0) := hat2.2.2.1.cell 5
        have sf5 := hat2.2.2.1.frozen 5
        have s6 : w2.cell? ⟨w.heap.size + 2, 6, none⟩ = some (.int .i64 0) := hat2.2.2.1.cell 6
        have sf6 := hat2.2.2.1.frozen 6
        have m1 : w2.cell? ⟨wr.heap.size, 1, none⟩ = some (.pointer (some ⟨w.heap.size + 3, 4, none⟩)) := hk2.cell 1
        have mf := hat2.2.2.2.1.frozen 4
        have HAT2 := Lib.hid hat2
        have HB2 := Lib.hid hb2
        have HO9 := Lib.hid ho9
        have HV9 := Lib.hid hv9
        have hlt4 := hat2.2.2.2.2.1.lt
        clear he hat2 hk2 hb2 ho9 hv9
        cases o9
        · go_wp2_with fail
          exact bodyPost_ret (by simp [results, Try.results27, go_sem, s0, s1, s2, s3, s4, s5, s6]) rfl ⟨rl_none (cs := [.bool f.start, .bool f.fin, .slice P1 p1 q1, .slice P2 p2 q2, .slice none 0 0, .slice none 0 0, .int .i64 0]) (by rw [← HO9.out]; simp) rfl (by intro u hu; simp only [List.mem_cons, List.not_mem_nil, or_false] at hu; rcases hu with rfl | rfl | rfl | rfl | rfl | rfl | rfl <;> rfl), below7 HAT2.out.2.2.2.2.2 (by omega) _ _ _ _ _ _ _⟩
        · go_wp2_with fail
          obtain ⟨ll9, hll9⟩ := Option.isSome_iff_exists.1 HO9.out.symm
          have kk : Keeps w2 (Fr B (w.heap.size + 5)) (w2.setCell ⟨w.heap.size + 3, 4, none⟩ (.slice A9 n9 c9)) (Fr B (w.heap.size + 5)) := Keeps.setCell _ (fun b hb => by rcases hb with h | h <;> dsimp only <;> omega) (fun _ h _ => h)
          refine ⟨⟨3, .slice P1 p1 q1, .slice P2 p2 q2, .slice A9 n9 c9, by omega, by go_num, HAT2.out.put 4 (.slice A9 n9 c9), by rw [if_neg (by omega)]; exact ⟨_, _, _, _, rfl, HL1.out, HV1.out.keep ((Keeps.below HB2.out (fun _ h _ => h)).trans kk)⟩, by rw [if_neg (by omega)]; exact ⟨_, _, _, _, rfl, HL2.out, HV2.out.keep ((Keeps.below HB2.out (fun _ h _ => h)).trans kk)⟩, by rw [if_neg (by omega)]; exact ⟨_, _, _, ll9, rfl, hll9, (HV9.out ll9 hll9).keep ((Keeps.refl (X' := Fr B (w.heap.size + 5)) (fun b hb => hb.imp id (fun h => Nat.le_trans (Nat.succ_le_of_lt HAT.out.2.2.2.2.1.lt) h))).trans kk)⟩⟩, by simp [intOf]⟩
    · have hk3 : 3 ≤ k := by omega
      rw [if_neg (by omega)] at g1
      obtain ⟨P1, p1, q1, ll1, rfl, hl1, hv1⟩ := g1
      rw [if_neg (by omega)] at g2
      obtain ⟨P2, p2, q2, ll2, rfl, hl2, hv2⟩ := g2
      rw [if_neg (by omega)] at g3
      obtain ⟨P3, p3, q3, ll3, rfl, hl3, hv3⟩ := g3
      generalize wr = wz at *
      have e3 : wz.cell? ⟨w.heap.size + 1, 3, none⟩ = some (.slice R2 b2 y2) := hat.2.1.cell 3
      have HAT := Lib.hid hat
      have HV1 := Lib.hid hv1
      have HV2 := Lib.hid hv2
      have HV3 := Lib.hid hv3
      have HL1 := Lib.hid hl1
      have HL2 := Lib.hid hl2
      have HL3 := Lib.hid hl3
      have hz := hat.2.2.2.2.2.size
      have hz4 := hat.2.2.2.2.1.lt
      clear hat hv1 hv2 hv3 hl1 hl2 hl3
      go_wp2_with fail
      go_loopw [56] (SqRel w wz B #[.bool f.start, .bool f.fin, .slice L1 a1 x1, .slice L2 a2 x2, .slice L3 a3 x3, .int .i64 f.cursor] #[.bool t.start, .bool t.fin, .slice R1 b1 y1, .slice R2 b2 y2, .slice R3 b3 y3, .int .i64 t.cursor] #[.slice L1 a1 x1, .pointer (some ⟨w.heap.size + 3, 2, none⟩), .slice L2 a2 x2, .pointer (some ⟨w.heap.size + 3, 3, none⟩), .slice L3 a3 x3, .pointer (some ⟨w.heap.size + 3, 4, none⟩)] (.bool f.start) (.bool f.fin) (.slice P1 p1 q1) (.slice P2 p2 q2) (.slice P3 p3 q3) t.source b2) (fun i _ => b2 - (intOf i).toNat)
      case atStart => exact ⟨0, .slice none 0 0, Nat.zero_le _, rfl, HAT.out, World.ownsRow_nil _ _ _ _, fun b hx hl => ⟨rfl, ⟨hx, hl⟩, hl⟩, Nat.le_refl _⟩
      case round =>
        obtain ⟨k, v, hk, rfl, hat, hown, hkp, hzr⟩ := hrel
        by_cases hlt : k < b2
        · obtain ⟨a, ha⟩ : ∃ z, t.source[k]? = some z := ⟨_, List.getElem?_eq_getElem (by rw [HRL.out]; exact hlt)⟩
          obtain ⟨b, off, A', n', c', rfl, hbb, f0, f1, f2, f3, _, _, _, _⟩ := item_at HR2.out ha
          have hbt := hat.2.2.2.2.2
          have hbw : b < w.heap.size := by omega
          have d0 := (hbt.cell (p := ⟨b, off + k * 4, none⟩) hbw).trans f0
          have d1 := (hbt.cell (p := ⟨b, off + k * 4 + 1, none⟩) hbw).trans f1
          have d2 := (hbt.cell (p := ⟨b, off + k * 4 + 2, none⟩) hbw).trans f2
          have d3 := (hbt.cell (p := ⟨b, off + k * 4 + 3, none⟩) hbw).trans f3
          clear f0 f1 f2 f3 hbt
          generalize hT : (t.source.take k).map (·.rune) = T at hown
          have HTM := Lib.hid ((take_map ha).trans (by rw [hT] : _ = T ++ [a.rune]))
          clear hT
          obtain ⟨Av, cv, rfl, _⟩ := own_form hown
          have hA1 := RsAt.alloc hat (.cells #[.int .i64 a.kind, .int .i32 a.rune, .slice A' n' c', .string a.name] 43)
          have hO1 := World.ownsRow.alloc hown (.cells #[.int .i64 a.kind, .int .i32 a.rune, .slice A' n' c', .string a.name] 43)
          have c5 : (wr.alloc (.cells #[.int .i64 a.kind, .int .i32 a.rune, .slice A' n' c', .string a.name] 43)).cell? ⟨w.heap.size + 3, 5, none⟩ = some (.slice Av k cv) := hA1.2.2.2.1.cell 5
          have HA2 := Lib.hid (RsAt.alloc hA1 (.cells #[.int .i32 a.rune] 21))
          have HO2 := Lib.hid (World.ownsRow.alloc hO1 (.cells #[.int .i32 a.rune] 21))
          have HKP := Lib.hid ((hkp.trans (Keeps.alloc (.cells #[.int .i64 a.kind, .int .i32 a.rune, .slice A' n' c', .string a.name] 43) (fun _ h _ => h))).trans (Keeps.alloc (.cells #[.int .i32 a.rune] 21) (fun _ h _ => h)))
          have hN := Rd.new (wr.alloc (.cells #[.int .i64 a.kind, .int .i32 a.rune, .slice A' n' c', .string a.name] 43)) 21 1 1 [.int .i32 a.rune] rfl
          rw [show (wr.alloc (.cells #[.int .i64 a.kind, .int .i32 a.rune, .slice A' n' c', .string a.name] 43)).heap.size = wr.heap.size + 1 by simp] at hN
          have HN := Lib.hid hN
          have H1C := Lib.hid (show ∀ u ∈ [Value.int .i32 a.rune], u.oneCell' = true by intro x hx; simp at hx; subst hx; rfl)
          have HZ := Lib.hid (show wz.heap.size ≤ ((wr.alloc (.cells #[.int .i64 a.kind, .int .i32 a.rune, .slice A' n' c', .string a.name] 43)).alloc (.cells #[.int .i32 a.rune] 21)).heap.size by simp; omega)
          clear hA1 hO1 hN hat hown hkp ha
          go_wp2_with (at_builtin; refine wpList_append_rd _ rfl (.tmp 61) (.tmp 64) 57 rfl wz.heap.size 21 i0 _ 1 4 Try.underlying57 hi hz0 hz1 hz2 rfl (by decide) _ _ _ rfl HO2.out _ (some ⟨wr.heap.size + 1, 0, none⟩) 1 1 [.int .i32 a.rune] rfl HN.out H1C.out (by simp only [maxLen]; omega) (by omega) HZ.out ?_)
          intro v9 w9 happ
          have hA3 := RsAt.app HA2.out HO2.out (by decide) (by decide) (by decide) hz happ
          have ho9 := happ.own
          have hkp9 := HKP.out.trans (Keeps.app (X' := fun b => Fr B (w.heap.size + 5) b ∧ b < wz.heap.size) happ (fun b hx e => by have := (own_lt HO2.out e).1; have := hx.2; omega) (fun _ h _ => h))
          have hz9 : wz.heap.size ≤ w9.heap.size := Nat.le_trans HZ.out happ.2.1.size
          rw [← runeCells_snoc, ← HTM.out] at ho9
          obtain ⟨A9, c9, rfl, _⟩ := own_form ho9
          have p5 : w9.cell? ⟨w.heap.size + 3, 5, none⟩ = some (.slice Av k cv) := hA3.2.2.2.1.cell 5
          have p5f := hA3.2.2.2.1.frozen 5
          have HA3 := Lib.hid hA3
          have HO9 := Lib.hid ho9
          have HKP9 := Lib.hid hkp9
          clear happ hA3 ho9 hkp9
          go_wp2_with fail
          refine ⟨⟨k + 1, .slice A9 (k + 1) c9, by omega, by go_num, HA3.out.put 5 (.slice A9 (k + 1) c9), own_setCell_ne HO9.out HA3.out.2.2.2.1 (by decide), HKP9.out.trans (Keeps.setCell _ (fun b hx => ?_) (fun _ h _ => h)), by simpa using hz9⟩, by simp [intOf]; omega⟩
          have := hx.1
          dsimp only
          rcases this with h | h <;> omega
        · obtain rfl : k = b2 := by omega
          rw [List.take_of_length_le (by rw [HRL.out]; omega)] at hown
          obtain ⟨Av, cv, rfl, _⟩ := own_form hown
          have hat2 := hat
          have t0 : wr.cell? ⟨w.heap.size + 3, 0, none⟩ = some (.bool f.start) := hat2.2.2.2.1.cell 0
          have t1 : wr.cell? ⟨w.heap.size + 3, 1, none⟩ = some (.bool f.fin) := hat2.2.2.2.1.cell 1
          have t2 : wr.cell? ⟨w.heap.size + 3, 2, none⟩ = some (.slice P1 p1 q1) := hat2.2.2.2.1.cell 2
          have t3 : wr.cell? ⟨w.heap.size + 3, 3, none⟩ = some (.slice P2 p2 q2) := hat2.2.2.2.1.cell 3
          have t4 : wr.cell? ⟨w.heap.size + 3, 4, none⟩ = some (.slice P3 p3 q3) := hat2.2.2.2.1.cell 4
          have t5 : wr.cell? ⟨w.heap.size + 3, 5, none⟩ = some (.slice Av k cv) := hat2.2.2.2.1.cell 5
          have t6 : wr.cell? ⟨w.heap.size + 3, 6, none⟩ = some (.int .i64 0) := hat2.2.2.2.1.cell 6
          have s0 : wr.cell? ⟨w.heap.size + 2, 0, none⟩ = some (.bool false) := hat2.2.2.1.cell 0
          have sf0 := hat2.2.2.1.frozen 0
          have s1 : wr.cell? ⟨w.heap.size + 2, 1, none⟩ = some (.bool false) := hat2.2.2.1.cell 1
          have sf1 := hat2.2.2.1.frozen 1
          have s2 : wr.cell? ⟨w.heap.size + 2, 2, none⟩ = some (.slice none 0 0) := hat2.2.2.1.cell 2
          have sf2 := hat2.2.2.1.frozen 2
          have s3 : wr.cell? ⟨w.heap.size + 2, 3, none⟩ = some (.slice none 0 0) := hat2.2.2.1.cell 3
          have sf3 := hat2.2.2.1.frozen 3
          have s4 : wr.cell? ⟨w.heap.size + 2, 4, none⟩ = some (.slice none 0 0) := hat2.2.2.1.cell 4
          have sf4 := hat2.2.2.1.frozen 4
          have s5 : wr.cell? ⟨w.heap.size + 2, 5, none⟩ = some (.slice none 0 0) := hat2.2.2.1.cell 5
          have sf5 := hat2.2.2.1.frozen 5
          have s6 : wr.cell? ⟨w.heap.size + 2, 6, none⟩ = some (.int .i64 0) := hat2.2.2.1.cell 6
          have sf6 := hat2.2.2.1.frozen 6
          have t6f := hat2.2.2.2.1.frozen 6
          have e5 : wr.cell? ⟨w.heap.size + 1, 5, none⟩ = some (.int .i64 t.cursor) := hat2.2.1.cell 5
          have hend : ∀ (we : World) (K : Int), ((∃ u, we = wr.setCell ⟨w.heap.size + 3, 6, none⟩ u) ∨ ∃ u u', we = (wr.setCell ⟨w.heap.size + 3, 6, none⟩ u).setCell ⟨w.heap.size + 3, 6, none⟩ u') → K = (if t.cursor < 0 then (t.source.length : Int) else t.cursor) →
              RlPost (set7 we (w.heap.size + 1 + 1) (.bool f.start) (.bool f.fin) (.slice P1 p1 q1) (.slice P2 p2 q2) (.slice P3 p3 q3) (.slice Av k cv) (.int .i64 K)) B w.heap.size (ruleP' LP f t) (.returned (.tuple #[.agg #[.bool f.start, .bool f.fin, .slice P1 p1 q1, .slice P2 p2 q2, .slice P3 p3 q3, .slice Av k cv, .int .i64 K], .bool true])) ∧
              Below w.heap.size w (set7 we (w.heap.size + 1 + 1) (.bool f.start) (.bool f.fin) (.slice P1 p1 q1) (.slice P2 p2 q2) (.slice P3 p3 q3) (.slice Av k cv) (.int .i64 K)) := by
            intro we K hwe hK
            have hbe : Below w.heap.size w we := by
              rcases hwe with ⟨u, rfl⟩ | ⟨u, u', rfl⟩
              · exact hat.2.2.2.2.2.setCell (by simp) _
              · exact (hat.2.2.2.2.2.setCell (by simp) _).setCell (by simp) _
            have kw : ∀ (X : Nat → Prop), (∀ b, X b → b ≠ w.heap.size + 3) → Keeps wr X we X := by
              intro X hX
              rcases hwe with ⟨u, rfl⟩ | ⟨u, u', rfl⟩
              · exact Keeps.setCell u (fun b hb => hX b hb) (fun _ h _ => h)
              · exact (Keeps.setCell (X' := X) u (fun b hb => hX b hb) (fun _ h _ => h)).trans (Keeps.setCell u' (fun b hb => hX b hb) (fun _ h _ => h))
            have kk : Keeps wz (Fr B (w.heap.size + 5)) (set7 we (w.heap.size + 1 + 1) (.bool f.start) (.bool f.fin) (.slice P1 p1 q1) (.slice P2 p2 q2) (.slice P3 p3 q3) (.slice Av k cv) (.int .i64 K)) (Fr B w.heap.size) := by
              refine (hkp.trans (kw _ (fun b hx => by rcases hx.1 with h | h <;> omega))).trans ((keep7 (fun b hx => ?_) _ _ _ _ _ _ _).trans (Keeps.refl (fun b hx => ?_)))
              · rcases hx.1 with h | h <;> omega
              · exact hx.1.imp id (fun h => by omega)
            refine ⟨⟨[.bool f.start, .bool f.fin, .slice P1 p1 q1, .slice P2 p2 q2, .slice P3 p3 q3, .slice Av k cv, .int .i64 K], rfl, ?_, ?_, fun rd hrd => ?_⟩, below7 hbe (by omega) _ _ _ _ _ _ _⟩
            · rw [ruleP_isSome, HL1.out, HL2.out, HL3.out]; rfl
            · intro u hu
              simp only [List.mem_cons, List.not_mem_nil, or_false] at hu
              rcases hu with rfl | rfl | rfl | rfl | rfl | rfl | rfl <;> rfl
            · obtain ⟨a, b, c, g1, g2, g3, rfl⟩ := ruleP_inv hrd
              rw [HL1.out] at g1
              rw [HL2.out] at g2
              rw [HL3.out] at g3
              cases g1
              cases g2
              cases g3
              refine ⟨_, _, _, Av, k, cv, by rw [hK], HV1.out.keep kk, HV2.out.keep kk, HV3.out.keep kk, ?_, by unfold maxLen; omega⟩
              refine (RdX.of_own (X := fun b => wz.heap.size ≤ b) hown (fun b hb => (own_lt hown hb).1)).keep ((kw _ (fun b hx => by omega)).trans ((keep7 (fun b hx => by omega) _ _ _ _ _ _ _).trans (Keeps.refl (fun b hx => .inr (by omega)))))
          have HEND := Lib.hid hend
          have hkl : (t.source.length : Int) = k := by rw [HRL.out]
          have HKL := Lib.hid hkl
          clear hend hkl hat hat2 hown hkp
          by_cases hc : t.cursor < 0
          · have HK := Lib.hid (show ((k : Nat) : Int) = (if t.cursor < 0 then (t.source.length : Int) else t.cursor) by rw [if_pos hc, HKL.out])
            go_wp2_with fail
            obtain ⟨hpost, hbl⟩ := HEND.out _ _ (.inr ⟨_, _, rfl⟩) HK.out
            exact bodyPost_ret (by simp [results, Try.results27, go_sem, s0, s1, s2, s3, s4, s5, s6]) rfl ⟨hpost, hbl⟩
          · have HK := Lib.hid (show t.cursor = (if t.cursor < 0 then (t.source.length : Int) else t.cursor) by rw [if_neg hc])
            go_wp2_with fail
            obtain ⟨hpost, hbl⟩ := HEND.out _ _ (.inl ⟨_, rfl⟩) HK.out
            exact bodyPost_ret (by simp [results, Try.results27, go_sem, s0, s1, s2, s3, s4, s5, s6]) rfl ⟨hpost, hbl⟩

end Go.Proofs.Ythcjiainpaebfaa
