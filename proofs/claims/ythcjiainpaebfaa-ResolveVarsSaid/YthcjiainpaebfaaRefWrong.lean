/- scriptref6.Ready: a file's script, forth or back. -/
import Derived.Test.YthcjiainpaebfaaRefSt
import Derived.Deep.CutBlock
import Derived.Deep.RegionLaw
import Derived.Deep.RegionHeldLaw
namespace Go.Proofs.Ythcjiainpaebfaa
open Go.RowKit Go.Maps

/-- What Ready tells. -/
def RfPost (B lo : Nat) (w : World) (l : List PartD) (back : Bool) (e : Ending) : Prop :=
  ∃ cs : List Value, cs.length = 3 ∧ e = .returned (.tuple #[.agg cs.toArray, .agg #[.int .i64 (readyP back l).2.1, .int .i64 (readyP back l).2.2]]) ∧ ScriptC w (Fr B lo) (readyP back l).1 cs
theorem rf_none {B lo : Nat} {l : List PartD} {back : Bool} {e1 e2 : Int} (h : readyP back l = (noScript, (e1, e2))) (w : World) : RfPost B lo w l back (.returned (.tuple #[.agg #[.bool false, .slice none 0 0, .slice none 0 0], .agg #[.int .i64 e1, .int .i64 e2]])) :=
  ⟨[.bool false, .slice none 0 0, .slice none 0 0], rfl, by rw [h], by rw [h]; exact no_script _ _⟩
theorem rf_fail {B lo : Nat} {l : List PartD} {back : Bool} {er : Int} {k : Nat} (hw : (fileP l).1 = 0) (hk : k + 1 ≤ l.length) (h1 : uptoP back l (k + 1) = .error (er, (k : Int))) (w : World) :
    RfPost B lo w l back (.returned (.tuple #[.agg #[.bool false, .slice none 0 0, .slice none 0 0], .agg #[.int .i64 er, .int .i64 k]])) := rf_none (readyP_error hw hk h1) w
/-- The result's cells, the fault's, the script's own. -/
def RfAt (w : World) (sb : Nat) (u0 u1 u2 : Value) (wx : World) : Prop :=
  Blk wx w.heap.size 26 zeroScript ∧ Blk wx (w.heap.size + 1) 29 #[.int .i64 0, .int .i64 0] ∧ Blk wx sb 26 #[u0, u1, u2] ∧ Below w.heap.size w wx
section
variable {w wx w2 : World} {sb : Nat} {u0 u1 u2 : Value}
theorem RfAt.below (h : RfAt w sb u0 u1 u2 wx) (hb : Below wx.heap.size wx w2) : RfAt w sb u0 u1 u2 w2 :=
  ⟨Blk.below h.1 hb h.1.lt, Blk.below h.2.1 hb h.2.1.lt, Blk.below h.2.2.1 hb h.2.2.1.lt, h.2.2.2.trans (hb.mono h.2.2.2.size)⟩
theorem RfAt.alloc (h : RfAt w sb u0 u1 u2 wx) (o : Obj) : RfAt w sb u0 u1 u2 (wx.alloc o) := h.below ((Below.refl _ _).alloc (Nat.le_refl _) o)
theorem RfAt.app (h : RfAt w sb u0 u1 u2 wx) {base sz n m : Nat} {e : TypeId} {v v' : Value} {xs ys : List Value} (ho : wx.ownsRow base e sz v n xs) (h1 : 26 ≠ e) (h2 : 29 ≠ e) (hb : w.heap.size ≤ base) (ha : Appended base e sz v wx m ys v' w2) : RfAt w sb u0 u1 u2 w2 :=
  ⟨blk_app h.1 ho h1 ha, blk_app h.2.1 ho h2 ha, blk_app h.2.2.1 ho h1 ha, h.2.2.2.trans (ha.below h.2.2.2.size (own_mono ho hb))⟩
theorem RfAt.set (h : RfAt w sb u0 u1 u2 wx) {g i : Nat} {u : Value} (hg : w.heap.size + 2 ≤ g) (hs : g ≠ sb) : RfAt w sb u0 u1 u2 (wx.setCell ⟨g, i, none⟩ u) :=
  ⟨blk_set_ne h.1 (by omega), blk_set_ne h.2.1 (by omega), blk_set_ne h.2.2.1 (by omega), h.2.2.2.setCell (by simp only; omega) _⟩
theorem RfAt.set2 (h : RfAt w sb u0 u1 u2 wx) (hs : w.heap.size + 2 ≤ sb) (u : Value) : RfAt w sb u0 u1 u (wx.setCell ⟨sb, 2, none⟩ u) :=
  ⟨blk_set_ne h.1 (by omega), blk_set_ne h.2.1 (by omega), h.2.2.1.put 2 u, h.2.2.2.setCell (by simp only; omega) _⟩
theorem RfAt.set01 (h : RfAt w sb u0 u1 u2 wx) (hs : w.heap.size + 2 ≤ sb) (v0 v1 : Value) : RfAt w sb v0 v1 u2 ((wx.setCell ⟨sb, 0, none⟩ v0).setCell ⟨sb, 1, none⟩ v1) :=
  ⟨blk_set_ne (blk_set_ne h.1 (by omega)) (by omega), blk_set_ne (blk_set_ne h.2.1 (by omega)) (by omega), (h.2.2.1.put 0 v0).put 1 v1, (h.2.2.2.setCell (by simp only; omega) _).setCell (by simp only; omega) _⟩
end
def PsD (B lo : Nat) (op : Bool) (A : List RuleD) (P : List PassD) (vp : Value) (wx : World) : Prop :=
  (op = false ∧ A = [] ∧ ClD B lo P vp wx) ∨ (op = true ∧ A ≠ [] ∧ ∃ va, OpD B lo va A P vp wx)
theorem PsD.below {B lo : Nat} {op : Bool} {A : List RuleD} {P : List PassD} {vp : Value} {wx w2 : World} (h : PsD B lo op A P vp wx) (hb : Below wx.heap.size wx w2) : PsD B lo op A P vp w2 := by
  rcases h with ⟨h1, h2, h3⟩ | ⟨h1, h2, va, h3⟩
  · exact .inl ⟨h1, h2, h3.below hb⟩
  · exact .inr ⟨h1, h2, va, h3.below hb⟩
theorem PsD.set {B lo g i : Nat} {op : Bool} {A : List RuleD} {P : List PassD} {vp u : Value} {wx : World} (h : PsD B lo op A P vp wx) (h1 : B ≤ g) (h2 : g < lo) : PsD B lo op A P vp (wx.setCell ⟨g, i, none⟩ u) := by
  rcases h with ⟨g1, g2, h3⟩ | ⟨g1, g2, va, h3⟩
  · exact .inl ⟨g1, g2, RySt.set h3 h1 h2⟩
  · exact .inr ⟨g1, g2, va, h3.set h1 h2⟩
theorem PsD.shut {B lo : Nat} {op : Bool} {A : List RuleD} {P : List PassD} {vp : Value} {wx : World} (h : PsD B lo op A P vp wx) (hl : A.length ≤ maxLen) : ClD B lo (P ++ pend A) vp wx := by
  rcases h with ⟨_, rfl, h3⟩ | ⟨_, h2, va, h3⟩
  · simpa [pend] using h3
  · exact h3.shut h2 hl
theorem ClD.row {B lo : Nat} {P : List PassD} {vp : Value} {wx : World} (h : ClD B lo P vp wx) : ∀ b, vp.ownBlock = some b → lo ≤ b ∧ b < wx.heap.size := by
  obtain ⟨_, _, ⟨_, _, _, _, o3⟩, _⟩ := h
  exact fun b hb => own_lt o3 hb
theorem OpD.row {B lo : Nat} {va vp : Value} {A : List RuleD} {P : List PassD} {wx : World} (h : OpD B lo va A P vp wx) : (∀ b, va.ownBlock = some b → lo ≤ b ∧ b < wx.heap.size) ∧ (∀ b, vp.ownBlock = some b → lo ≤ b ∧ b < wx.heap.size) := by
  obtain ⟨⟨_, _, _, _, o1⟩, _, _, _, _, o3⟩ := h
  exact ⟨fun b hb => own_lt o1 hb, fun b hb => own_lt o3 hb⟩
theorem fr_set {w : World} {B s g i : Nat} {u : Value} (h0 : B ≤ g) (h2 : g < s) : Keeps w (Fr B s) (w.setCell ⟨g, i, none⟩ u) (Fr B s) :=
  Keeps.setCell u (fun b hb => by rcases hb with h | h <;> dsimp only <;> omega) (fun _ h _ => h)
theorem ClD.back {B lo : Nat} {P Q : List PassD} {vp vq : Value} {wx : World} (h : RySt B lo [] [] P Q (.slice none 0 0) (.slice none 0 0) vp vq wx) : ClD B lo Q vq wx := by
  obtain ⟨_, _, _, h4, _⟩ := h
  have hk : Keeps wx (Rows4 B lo (.slice none 0 0) (.slice none 0 0) vp vq) wx (Rows4 B lo (.slice none 0 0) (.slice none 0 0) vq (.slice none 0 0)) := Keeps.refl (fun _ h => h.imp id (fun ⟨g1, g2, g3, _, g5⟩ => ⟨g1, g2, g3, g5, by simp [Value.ownBlock]⟩))
  exact ⟨OwnL.nil _ _, OwnL.nil _ _, h4.weak (fun _ _ => PassC.keep hk), OwnL.nil _ _, fun b hb => by simp [Value.ownBlock] at hb, fun b _ hc => by simp [Value.ownBlock] at hc⟩
theorem ClD.read {B lo s : Nat} {P : List PassD} {A : Option Addr} {kp : Nat} {wx : World} (h : ClD B lo P (.slice A P.length kp) wx) (hs : s ≤ lo) (hl : P.length ≤ maxLen) : PassesV wx (Fr B s) P (.slice A P.length kp) := by
  have hk : Keeps wx (Rows4 B lo (.slice none 0 0) (.slice none 0 0) (.slice A P.length kp) (.slice none 0 0)) wx (Fr B s) := Keeps.refl (fun b hb => hb.imp id (fun h => by omega))
  have h3 := h.2.2.1
  refine ⟨A, P.length, kp, rfl, OwnL.done h3 (fun _ _ => PassC.keep hk) (fun b hb => .inr ?_), hl⟩
  obtain ⟨_, _, _, _, o3⟩ := h3
  have := (own_lt o3 hb).1
  omega
theorem ne_row_blk {lo g h n m c sz : Nat} {wx : World} {xs : List Value} {cs : Array Value} (ho : wx.ownsRow lo 55 sz (.slice (some ⟨g, 0, none⟩) n c) m xs) (hb : Blk wx h 59 cs) : h ≠ g := fun e => by
  subst e
  exact own_ne_blk ho hb (by decide) rfl
theorem sk_of {w : World} {sb h : Nat} {u0 u1 u2 c0 c1 c2 c3 c4 c5 c6 : Value} (wx : World) (h1 : RfAt w sb u0 u1 u2 wx) (h2 : Blk wx h 59 #[c0, c1, c2, c3, c4, c5, c6]) :
    wx.cell? ⟨sb, 2, none⟩ = some u2 ∧ wx.cell? ⟨h, 0, none⟩ = some c0 ∧ wx.cell? ⟨h, 1, none⟩ = some c1 ∧ wx.cell? ⟨h, 2, none⟩ = some c2 ∧ wx.cell? ⟨h, 3, none⟩ = some c3 ∧ wx.cell? ⟨h, 4, none⟩ = some c4 ∧ wx.cell? ⟨h, 5, none⟩ = some c5 ∧ wx.cell? ⟨h, 6, none⟩ = some c6 :=
  ⟨h1.2.2.1.cell 2, h2.cell 0, h2.cell 1, h2.cell 2, h2.cell 3, h2.cell 4, h2.cell 5, h2.cell 6⟩
def RfRel (B : Nat) (w : World) (sb : Nat) (back : Bool) (l : List PartD) (n : Nat) (o i : Value) (wr : World) : Prop :=
  ∃ (k : Nat) (s : StD) (op : Bool) (vp : Value) (Af : Option Addr) (nf cf : Nat), k ≤ n ∧ i = .int .i64 k ∧ o = .bool op ∧ uptoP back l k = .ok s ∧ RfAt w sb (.bool s.some?) (.slice Af nf cf) vp wr ∧ sb + 1 ≤ wr.heap.size ∧ w.heap.size + 2 ≤ sb ∧
    SetV w (· < B) s.only (.slice Af nf cf) ∧ PsD B (sb + 1) op s.a s.ps vp wr ∧ s.a.length ≤ k ∧ s.ps.length ≤ 2 * k

set_option maxRecDepth 100000 in
set_option maxHeartbeats 3200000 in
theorem ref_ready_wrong (B : Nat) (A : Option Addr) (n c : Nat) (l : List PartD) (back : Bool) (w : World) (hn : n ≤ maxLen) (hBw : B ≤ w.heap.size) (hl : RdP w B A n l) (hw : (fileP l).1 ≠ 0) :
    Calls Try.prog 7 #[.slice A n c, .bool back] w fun e w' => RfPost B w.heap.size w' l back e ∧ Below w.heap.size w w' := by
  have hrf : ∀ w', Below w.heap.size w w' → Calls Try.prog 15 #[.slice A n c] w' fun e w2 => e = .returned (.agg #[.int .i64 (fileP l).1, .int .i64 (fileP l).2]) ∧ Below w'.heap.size w' w2 :=
    fun w' hb => ref_file A n c l w' hn (RdP.weak (weak_of (hb.mono hBw) (Nat.le_trans hBw hb.size)) hl)
  have hne : ((fileP l).1 != 0) = true := by simpa using hw
  have hp1 := Lib.hid (readyP_wrong (back := back) hw)
  clear hw hl hn
  generalize hF : fileP l = F0 at *
  obtain ⟨F1, F2⟩ := F0
  dsimp only at *
  clear hF
  have HRF := Lib.hid hrf
  have HP1 := Lib.hid (fun w' => rf_none (B := B) (lo := w.heap.size) hp1.out w')
  have HR0 := Lib.hid (show Blk ((w.alloc (.cells zeroScript 26)).alloc (.cells #[.int .i64 0, .int .i64 0] 29)) w.heap.size 26 zeroScript ∧ Blk ((w.alloc (.cells zeroScript 26)).alloc (.cells #[.int .i64 0, .int .i64 0] 29)) (w.heap.size + 1) 29 #[.int .i64 0, .int .i64 0] ∧ Below w.heap.size w ((w.alloc (.cells zeroScript 26)).alloc (.cells #[.int .i64 0, .int .i64 0] 29)) from
    ⟨Blk.alloc (Blk.new _ _ _) _, by simpa using Blk.new (w.alloc (.cells zeroScript 26)) 29 #[.int .i64 0, .int .i64 0], ((Below.refl _ _).alloc (Nat.le_refl _) _).alloc (by simp) _⟩)
  clear hrf hp1
  go_enter Try.func7, Try.ntmps7
  go_wp2_with fail
  refine (HRF.out _ HR0.out.2.2).mono ?_
  rintro e w1 ⟨rfl, hb1⟩
  have hx := Blk.alloc (Blk.below HR0.out.1 hb1 HR0.out.1.lt) (.cells #[.int .i64 F1, .int .i64 F2] 29)
  have hy := Blk.alloc (Blk.below HR0.out.2.1 hb1 HR0.out.2.1.lt) (.cells #[.int .i64 F1, .int .i64 F2] 29)
  have hz := Blk.new w1 29 #[.int .i64 F1, .int .i64 F2]
  have hbl := (HR0.out.2.2.trans (hb1.mono HR0.out.2.2.size)).alloc (Nat.le_trans HR0.out.2.2.size hb1.size) (.cells #[.int .i64 F1, .int .i64 F2] 29)
  have HSZ := Lib.hid hb1.size
  have HXX := Lib.hid (And.intro hx (And.intro hy (And.intro hz hbl)))
  clear hx hy hz hbl hb1
  go_upto_region 3 with fail
  obtain ⟨hx, hy, hz, hbl⟩ := HXX.out
  clear HXX
  generalize w1.alloc (.cells #[.int .i64 F1, .int .i64 F2] 29) = W3 at *
  have a0 : W3.cell? ⟨w.heap.size, 0, none⟩ = some (.bool false) := hx.cell 0
  have a1 : W3.cell? ⟨w.heap.size, 1, none⟩ = some (.slice none 0 0) := hx.cell 1
  have a2 : W3.cell? ⟨w.heap.size, 2, none⟩ = some (.slice none 0 0) := hx.cell 2
  have b0 : W3.cell? ⟨w.heap.size + 1, 0, none⟩ = some (.int .i64 0) := hy.cell 0
  have b1 : W3.cell? ⟨w.heap.size + 1, 1, none⟩ = some (.int .i64 0) := hy.cell 1
  have c0 : W3.cell? ⟨w1.heap.size, 0, none⟩ = some (.int .i64 F1) := hz.cell 0
  have c1 : W3.cell? ⟨w1.heap.size, 1, none⟩ = some (.int .i64 F2) := hz.cell 1
  have hgt := Nat.lt_of_lt_of_le HR0.out.2.1.lt HSZ.out
  have d0 := hx.frozen 0
  have d1 := hx.frozen 1
  have d2 := hx.frozen 2
  have d3 := hy.frozen 0
  have d4 := hy.frozen 1
  have HBL := Lib.hid hbl
  have hn0 : ¬ w.heap.size = w1.heap.size := by omega
  have hn1 : ¬ w.heap.size + 1 = w1.heap.size := by omega
  clear hx hy hz hbl
  go_region
  all_goals
    go_wp2_with fail
    have hbl := ((((HBL.out.setCell (p := ⟨w.heap.size, 0, none⟩) (by simp) (.bool false)).setCell (p := ⟨w.heap.size, 1, none⟩) (by simp) (.slice none 0 0)).setCell (p := ⟨w.heap.size, 2, none⟩) (by simp) (.slice none 0 0)).setCell (p := ⟨w.heap.size + 1, 0, none⟩) (by simp) (.int .i64 F1)).setCell (p := ⟨w.heap.size + 1, 1, none⟩) (by simp) (.int .i64 F2)
    refine bodyPost_ret (v := .tuple #[.agg #[.bool false, .slice none 0 0, .slice none 0 0], .agg #[.int .i64 F1, .int .i64 F2]]) (by simp [results, Try.results7, go_sem, a0, a1, a2, b0, b1]) rfl ⟨HP1.out _, ?_⟩
    exact hbl.drew

end Go.Proofs.Ythcjiainpaebfaa
